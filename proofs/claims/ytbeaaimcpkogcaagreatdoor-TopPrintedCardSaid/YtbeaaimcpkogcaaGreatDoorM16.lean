/- Lemmas on the way to the claim. -/
import Derived.Deep.RegionHeld3
import Derived.Test.YtbeaaimcpkogcaaGreatDoorM13
import Derived.Test.YtbeaaimcpkogcaaGreatDoorM15
set_option linter.unusedSimpArgs false
set_option linter.unusedVariables false
set_option maxHeartbeats 6400000
set_option maxRecDepth 100000
namespace Go.Proofs.YtbeaaimcpkogcaaGreatDoor
open Go.RowKit
variable {u w w' w0:World} {G R a b base g n off size:Nat} {v:Value} {xs:List Value} {A A' S:Nat->Prop} {p:Addr} {o:Obj} {l:List Sm} {ps:List Par} {f:Fun} {img:Array Value}
section
open Go.Proofs.Tryz Go.Sort
theorem KX (n : Nat) (hn : n ≤ 4294967295) (w : World) (htab : Lib.TabIs prog w "internal/strconv.uint64pow10" .u64 Lib.pow10Tab):
  Calls prog 92 #[.int .u64 n,.int .i64 10] w λe w'=>e=.returned (.string ⟨(Lib.decDigits n).toArray⟩)/\Below w.heap.size w w':=by
 by_cases hs:n<100
 ·have t:decide ((n:Int)<100)=true:=by simp;omega
  go_enter func92,ntmps92
  go_wp2_with fail;refine(Tryz.internal_strconv_small n hs _).mono ?_;rintro e w' ⟨rfl,rfl⟩;go_wp2_with fail;go_ret;exact⟨rfl,ai _ _⟩
 ·have t:decide ((n:Int)<100)=false:=by simp;omega
  have m:1<=n:=by omega
  have c:n<18446744073709551616:=by omega
  have q:Lib.nDigits n<=20:=by have:=Lib.numDigits_eq n m c;split at this<;>omega
  have l:Tryz.prog.arrayLen 239=24:=by simp[Program.arrayLen,underlying239]
  have r:∀W,(Instr.sliceAt 239 (.pointer (some ⟨w.heap.size,0,none⟩)) none (some (.int .i64 (Lib.nDigits n:Int))) none).run prog W=.ok (.slice (some ⟨w.heap.size,0,none⟩) (Lib.nDigits n) 24) W:=λW=>by
   rw[run_sliceAt_array_h W 239 ⟨w.heap.size,0,none⟩ (by simp[Program.arrayLen,Program.elem,underlying239]) .i64 (Lib.nDigits n:Int) (by omega) (by rw[l];omega)];go_simp
  have d:=Lib.holds_zero0 w 239 (Lib.nDigits n) (by omega);have a:=aa (Tryz.internal_strconv_formatBase10 w.heap.size 0 24 n (Array.replicate (Lib.nDigits n) 0) (w.alloc (.cells Lib.zeros24 239)) d (by rw[M8];exact Lib.lt_pow_nDigits n) c (by rw[M8];omega));rw[M8]at a;have o:=aa d;have f:=aa (Tryz.internal_strconv_numDigits n m c (w.alloc (.cells Lib.zeros24 239)) (Lib.tabIs_alloc htab _));clear d l htab
  go_enter func92,ntmps92
  go_wp2_with fail;refine f.mono ?_;rintro e w' ⟨rfl,rfl⟩;go_wp2_with fail;refine a.out.mono ?_;rintro e w' ⟨rfl,k,x,g,rfl,p⟩;have v:(convert 65 9 (.slice (some ⟨w.heap.size,0,none⟩) (Lib.nDigits n) 24)).run prog ((putRow (λ(b:UInt8)=>Value.int .u8 (b.toNat:Int)) (w.alloc (.cells Lib.zeros24 239)) w.heap.size 0 g).drewN k)=.ok (.string ⟨(Lib.decDigits n).toArray⟩) ((putRow (λ(b:UInt8)=>Value.int .u8 (b.toNat:Int)) (w.alloc (.cells Lib.zeros24 239)) w.heap.size 0 g).drewN k):=by
   have h:=run_convert_bytes_back (P:=prog) ((putRow (λ(b:UInt8)=>Value.int .u8 (b.toNat:Int)) (w.alloc (.cells Lib.zeros24 239)) w.heap.size 0 g).drewN k) 65 9 5 ⟨w.heap.size,0,none⟩ 24 (Lib.decDigits n) underlying65 underlying5 underlying9 (λj hj=>by
    rw[Lib.add_plain,Lib.row_is_numeral p j hj,World.cell?_drewN,cA];have:=cell?_putRow (λ(b:UInt8)=>Value.int .u8 (b.toNat:Int)) (w.alloc (.cells Lib.zeros24 239)) w.heap.size 0 _ g o.out (by rw[p.size,M8]) j (by rw[p.size];rw[Lib.decDigits_length]at hj;exact hj);rw[cA]at this;exact this)
   rw[Lib.decDigits_length]at h;exact h
  clear f a;go_wp2_with fail;go_ret;obtain⟨s,u⟩:=Lib.fin_at w (.cells Lib.zeros24 239) g k 0;refine⟨rfl,?_⟩;rw[u];exact⟨rfl,rfl,rfl,by show w.heap.size<=(w.heap++s).size;simp,λi hi=>Lib.heap_grow_old w k s i hi⟩
theorem Di (n : Nat) (hn : n ≤ 4294967295) (w : World) (htab : Lib.TabIs prog w "internal/strconv.uint64pow10" .u64 Lib.pow10Tab):
  Calls prog 38 #[.int .u64 n,.int .i64 10] w λe w'=>e=.returned (.string ⟨(Lib.decDigits n).toArray⟩)/\Below w.heap.size w w':=by
 have H:=aa (KX n hn w htab);clear htab
 go_enter func38,ntmps38
 go_wp2_with fail;refine H.mono ?_;rintro e u ⟨rfl,a⟩;have b:=aa a;clear a H;go_wp2_with fail;go_ret;exact⟨rfl,b.out⟩
end
theorem bG {e:TypeId} (h:w.ownsRow base e size v n xs) (hg:v.ownBlock=some g):∃cur fr,w.heap[g]?=some (.cells cur e fr):=by
 rcases h.2 with⟨rfl,_⟩|⟨c,a,cur,rfl,_,b,_⟩
 ·cases hg
 ·simp only[Value.ownBlock,aq]at hg
  subst hg;exact⟨_,_,b⟩
theorem Chg.grown {a w1:World} (h:Chg S a u) {row:Option Nat} (hg:u.grownBy w1 row) (hr:∀k,row=some k->k<a.heap.size->S k):Chg S a w1:=
 ⟨hg.os.trans h.os,hg.tape.trans h.tape,hg.output.trans h.output,ay h.size hg.size,λk hk hn=>by
  rw[hg.block k (bu hk h.size) λq=>hn (hr k q.symm hk)];exact h.block k hk hn⟩
theorem kE {q:World} {u:Value} (h:q.cell? p=some u):(q.alloc o).cell? p=some u:=
 (aI (w:=q) (aK _ _ _ (ry q _ h))).trans h
abbrev stC (k:Int) (nm:Tx) (p:Bool) (l r th el:Value) (ln:Int):Obj:=.cells #[.int .i64 k,.string ⟨nm.toArray⟩,.bool p,l,r,th,el,.int .i64 ln] 263 (0,0)
abbrev cM:Value:=.pointer none
abbrev bX:Value:=.slice none 0 0
mutual
def ci (w:World) (A:Nat->Prop):Nat->Sm->Prop
 | b,.var n p none=>A b/\∃ln,w.heap[b]?=some (stC 1 n p cM cM bX bX ln)
 | b,.var n p (some r)=>A b/\∃ln rb,w.heap[b]?=some (stC 1 n p cM (pB rb) bX bX ln)/\bK w A rb r
 | b,.set n r=>A b/\∃ln rb,w.heap[b]?=some (stC 2 n false cM (pB rb) bX bX ln)/\bK w A rb r
 | b,.cell l r=>A b/\∃ln lb rb,w.heap[b]?=some (stC 3 [] false (pB lb) (pB rb) bX bX ln)/\bK w A lb l/\bK w A rb r
 | b,.iff r x y=>A b/\∃ln rb vx vy bx by',w.heap[b]?=some (stC 4 [] false cM (pB rb) vx vy ln)/\bK w A rb r/\li w A 195 vx bx.length (bx.map pB)/\cu w A bx x/\li w A 195 vy by'.length (by'.map pB)/\cu w A by' y
 | b,.whl r x=>A b/\∃ln rb vx bx,w.heap[b]?=some (stC 5 [] false cM (pB rb) vx bX ln)/\bK w A rb r/\li w A 195 vx bx.length (bx.map pB)/\cu w A bx x
 | b,.out r=>A b/\∃ln rb,w.heap[b]?=some (stC 6 [] false cM (pB rb) bX bX ln)/\bK w A rb r
 | b,.free r=>A b/\∃ln rb,w.heap[b]?=some (stC 7 [] false cM (pB rb) bX bX ln)/\bK w A rb r
 | b,.drain=>A b/\∃ln,w.heap[b]?=some (stC 8 [] false cM cM bX bX ln)
 | b,.ret none=>A b/\∃ln,w.heap[b]?=some (stC 9 [] false cM cM bX bX ln)
 | b,.ret (some r)=>A b/\∃ln rb,w.heap[b]?=some (stC 9 [] false cM (pB rb) bX bX ln)/\bK w A rb r
 | b,.call r=>A b/\∃ln rb,w.heap[b]?=some (stC 10 [] false cM (pB rb) bX bX ln)/\bK w A rb r
def cu (w:World) (A:Nat->Prop):List Nat->List Sm->Prop
 | [],[]=>True
 | b::bs,x::xs=>ci w A b x/\cu w A bs xs
 | _,_=>False
end
def jU (w:World) (A:Nat->Prop) (v:Value) (l:List Sm):Prop:=∃bs,li w A 195 v bs.length (bs.map pB)/\cu w A bs l
mutual
theorem ci.onA {w w':World} {A:Nat->Prop} (hs:aX A w w'):∀{b:Nat} {x:Sm},ci w A b x->ci w' A b x
 | b,.var n p none,h=>by rw[ci]at h ⊢;obtain⟨a,c,h⟩:=h;exact⟨a,c,hs _ _ a h⟩
 | b,.var n p (some r),h=>by rw[ci]at h ⊢;obtain⟨a,c,e,h,d⟩:=h;exact⟨a,c,e,hs _ _ a h,d.onA hs⟩
 | b,.set n r,h=>by rw[ci]at h ⊢;obtain⟨a,c,e,h,d⟩:=h;exact⟨a,c,e,hs _ _ a h,d.onA hs⟩
 | b,.cell l r,h=>by rw[ci]at h ⊢;obtain⟨a,c,q,e,h,m,d⟩:=h;exact⟨a,c,q,e,hs _ _ a h,m.onA hs,d.onA hs⟩
 | b,.iff r x y,h=>by rw[ci]at h ⊢;obtain⟨a,c,e,k,t,f,g,h,d,j,i,s,o⟩:=h;exact⟨a,c,e,k,t,f,g,hs _ _ a h,d.onA hs,j.on hs,cu.onA hs i,s.on hs,cu.onA hs o⟩
 | b,.whl r x,h=>by rw[ci]at h ⊢;obtain⟨a,c,e,k,f,h,d,j,i⟩:=h;exact⟨a,c,e,k,f,hs _ _ a h,d.onA hs,j.on hs,cu.onA hs i⟩
 | b,.out r,h=>by rw[ci]at h ⊢;obtain⟨a,c,e,h,d⟩:=h;exact⟨a,c,e,hs _ _ a h,d.onA hs⟩
 | b,.free r,h=>by rw[ci]at h ⊢;obtain⟨a,c,e,h,d⟩:=h;exact⟨a,c,e,hs _ _ a h,d.onA hs⟩
 | b,.drain,h=>by rw[ci]at h ⊢;obtain⟨a,c,h⟩:=h;exact⟨a,c,hs _ _ a h⟩
 | b,.ret none,h=>by rw[ci]at h ⊢;obtain⟨a,c,h⟩:=h;exact⟨a,c,hs _ _ a h⟩
 | b,.ret (some r),h=>by rw[ci]at h ⊢;obtain⟨a,c,e,h,d⟩:=h;exact⟨a,c,e,hs _ _ a h,d.onA hs⟩
 | b,.call r,h=>by rw[ci]at h ⊢;obtain⟨a,c,e,h,d⟩:=h;exact⟨a,c,e,hs _ _ a h,d.onA hs⟩
theorem cu.onA {w w':World} {A:Nat->Prop} (hs:aX A w w'):∀{bs:List Nat} {xs:List Sm},cu w A bs xs->cu w' A bs xs
 | [],[],h=>by rw[cu];trivial
 | b::bs,x::xs,h=>by rw[cu]at h ⊢;exact⟨ci.onA hs h.1,cu.onA hs h.2⟩
 | [],_::_,h=>by rw[cu]at h<;>first|exact h.elim|(intros;simp_all)
 | _::_,[],h=>by rw[cu]at h<;>first|exact h.elim|(intros;simp_all)
end
mutual
theorem ci.weak {w:World} {A A':Nat->Prop} (hl:∀k,k<w.heap.size->A k->A' k):∀{b:Nat} {x:Sm},ci w A b x->ci w A' b x
 | b,.var n p none,h=>by rw[ci]at h ⊢;obtain⟨a,c,h⟩:=h;exact⟨hl _ (ab h) a,c,h⟩
 | b,.var n p (some r),h=>by rw[ci]at h ⊢;obtain⟨a,c,e,h,d⟩:=h;exact⟨hl _ (ab h) a,c,e,h,d.weak hl⟩
 | b,.set n r,h=>by rw[ci]at h ⊢;obtain⟨a,c,e,h,d⟩:=h;exact⟨hl _ (ab h) a,c,e,h,d.weak hl⟩
 | b,.cell l r,h=>by rw[ci]at h ⊢;obtain⟨a,c,s,e,h,i,d⟩:=h;exact⟨hl _ (ab h) a,c,s,e,h,i.weak hl,d.weak hl⟩
 | b,.iff r x y,h=>by rw[ci]at h ⊢;obtain⟨a,c,e,o,u,f,g,h,d,m,j,t,q⟩:=h;exact⟨hl _ (ab h) a,c,e,o,u,f,g,h,d.weak hl,m.weak hl,cu.weak hl j,t.weak hl,cu.weak hl q⟩
 | b,.whl r x,h=>by rw[ci]at h ⊢;obtain⟨a,c,e,o,f,h,d,m,j⟩:=h;exact⟨hl _ (ab h) a,c,e,o,f,h,d.weak hl,m.weak hl,cu.weak hl j⟩
 | b,.out r,h=>by rw[ci]at h ⊢;obtain⟨a,c,e,h,d⟩:=h;exact⟨hl _ (ab h) a,c,e,h,d.weak hl⟩
 | b,.free r,h=>by rw[ci]at h ⊢;obtain⟨a,c,e,h,d⟩:=h;exact⟨hl _ (ab h) a,c,e,h,d.weak hl⟩
 | b,.drain,h=>by rw[ci]at h ⊢;obtain⟨a,c,h⟩:=h;exact⟨hl _ (ab h) a,c,h⟩
 | b,.ret none,h=>by rw[ci]at h ⊢;obtain⟨a,c,h⟩:=h;exact⟨hl _ (ab h) a,c,h⟩
 | b,.ret (some r),h=>by rw[ci]at h ⊢;obtain⟨a,c,e,h,d⟩:=h;exact⟨hl _ (ab h) a,c,e,h,d.weak hl⟩
 | b,.call r,h=>by rw[ci]at h ⊢;obtain⟨a,c,e,h,d⟩:=h;exact⟨hl _ (ab h) a,c,e,h,d.weak hl⟩
theorem cu.weak {w:World} {A A':Nat->Prop} (hl:∀k,k<w.heap.size->A k->A' k):∀{bs:List Nat} {xs:List Sm},cu w A bs xs->cu w A' bs xs
 | [],[],h=>by rw[cu];trivial
 | b::bs,x::xs,h=>by rw[cu]at h ⊢;exact⟨ci.weak hl h.1,cu.weak hl h.2⟩
 | [],_::_,h=>by rw[cu]at h<;>first|exact h.elim|(intros;simp_all)
 | _::_,[],h=>by rw[cu]at h<;>first|exact h.elim|(intros;simp_all)
end
theorem cu.snoc:∀{bs:List Nat} {xs:List Sm} {b:Nat} {x:Sm},cu w A bs xs->ci w A b x->cu w A (bs++[b]) (xs++[x])
 | [],[],b,x,_,h=>by show cu w A [b] [x];rw[cu,cu];exact⟨h,trivial⟩
 | c::bs,y::xs,b,x,h,hx=>by
  rw[cu]at h;show cu w A (c::(bs++[b])) (y::(xs++[x]));rw[cu];exact⟨h.1,cu.snoc h.2 hx⟩
 | [],_::_,b,x,h,_=>by rw[cu]at h<;>first|exact h.elim|(intros;simp_all)
 | _::_,[],b,x,h,_=>by rw[cu]at h<;>first|exact h.elim|(intros;simp_all)
theorem jU.on (h:jU w A v l) (hs:aX A w w'):jU w' A v l:=by
 obtain⟨a,b,c⟩:=h;exact⟨a,b.on hs,c.onA hs⟩
theorem jU.weak (h:jU w A v l) (hs:∀k,k<w.heap.size->A k->A' k):jU w A' v l:=by
 obtain⟨a,b,c⟩:=h;exact⟨a,b.weak hs,c.weak hs⟩
theorem bD {e:TypeId} (h:w.ownsRow base e size v n xs):∃a m c,v=.slice a m c:=by
 rcases h.2 with⟨rfl,_⟩|⟨g,b,d,rfl,_⟩
 ·exact⟨_,_,_,rfl⟩
 ·exact⟨_,_,_,rfl⟩
theorem jU.one {m cap:Nat} {x:Sm} (hx:ci w (Ge m) b x) (hg:w.heap[g]?=some (.cells #[pB b] 195 (0,0))) (hm:m<=g):jU w (Ge m) (.slice (some ⟨g,0,none⟩) 1 1) [x]:=by
 refine⟨[b],⟨⟨by simp,.inr ⟨g,1,#[pB b],rfl,aV _,hg,ag _,by unfold maxLen;omega,rfl,rfl⟩⟩,λk hk=>?_⟩,?_⟩
 ·simp only[Value.ownBlock,aq]at hk;subst hk;exact hm
 ·rw[cu,cu];exact⟨hx,trivial⟩
theorem Tryz.info140:(Tryz.prog.info? 140).map (λi=>(i.zero,i.size,i.bytes))=some (some (.agg #[.string ⟨#[]⟩,.bool false]),2,24):=by kernel_rfl
abbrev fnC (nm:Tx) (vp:Value) (p:Bool) (vb:Value) (ln:Int):Obj:=.cells #[.string ⟨nm.toArray⟩,vp,.bool p,vb,.int .i64 ln] 136 (0,0)
def bE (ps:List Par):List Value:=ps.flatMap λp=>[.string ⟨p.name.toArray⟩,.bool p.ptr]
theorem nJ (ps:List Par) (p:Par):bE (ps++[p])=bE ps++[.string ⟨p.name.toArray⟩,.bool p.ptr]:=by simp[bE]
theorem gX {e:TypeId} (h:w.ownsRow base e size v n xs) (hp:∀g,v.ownBlock=some g->g≠p.block) (x:Value):(w.setCell p x).ownsRow base e size v n xs:=by
 obtain⟨f,c⟩:=h;refine⟨f,?_⟩;rcases c with c|⟨g,a,b,d,i,j,r⟩
 ·exact .inl c
 ·exact .inr ⟨g,a,b,d,i,by rw[aM _ _ _ _ (hp g (by rw[d];rfl))];exact j,r⟩
theorem uG {e:TypeId} (h:w.ownsRow base e size v n xs) (hg:v.ownBlock=some g):g<w.heap.size:=by
 obtain⟨a,c,b⟩:=bG h hg;exact ab b
def Ec (w:World) (A:Nat->Prop) (v:Value) (ps:List Par):Prop:=w.ownsRow 0 140 2 v ps.length (bE ps)/\∀g,v.ownBlock=some g->A g
def ji (w:World) (A:Nat->Prop) (b:Nat) (f:Fun):Prop:=
 A b/\∃ln vp vb bs,w.heap[b]?=some (fnC f.name vp f.ptr vb ln)/\Ec w A vp f.params/\li w A 195 vb bs.length (bs.map pB)/\cu w A bs f.body
theorem Ec.on (h:Ec w A v ps) (hs:aX A w w'):Ec w' A v ps:=by
 obtain⟨⟨e,c⟩,d⟩:=h;refine⟨⟨e,?_⟩,d⟩;rcases c with c|⟨g,a,b,rfl,f,i,r⟩
 ·exact .inl c
 ·exact .inr ⟨g,a,b,rfl,f,hs g _ (d g rfl) i,r⟩
theorem Ec.weak (h:Ec w A v ps) (hs:∀k,k<w.heap.size->A k->A' k):Ec w A' v ps:=
 ⟨h.1,λg hg=>hs g (uG h.1 hg) (h.2 g hg)⟩
theorem ji.onA (h:ji w A b f) (hs:aX A w w'):ji w' A b f:=by
 obtain⟨a,i,k,j,c,hn,g,e,d⟩:=h;exact⟨a,i,k,j,c,hs _ _ a hn,g.on hs,e.on hs,d.onA hs⟩
theorem ji.weak (h:ji w A b f) (hs:∀k,k<w.heap.size->A k->A' k):ji w A' b f:=by
 obtain⟨c,i,l,j,a,hn,g,e,d⟩:=h;exact⟨hs _ (ab hn) c,i,l,j,a,hn,g.weak hs,e.weak hs,d.weak hs⟩
def dV (w:World) (A:Nat->Prop):List Nat->List Fun->Prop
 | [],[]=>True
 | b::bs,x::xs=>ji w A b x/\dV w A bs xs
 | _,_=>False
theorem dV.onA (hs:aX A w w'):∀{bs:List Nat} {xs:List Fun},dV w A bs xs->dV w' A bs xs
 | [],[],h=>trivial
 | b::bs,x::xs,h=>⟨ji.onA h.1 hs,dV.onA hs h.2⟩
 | [],_::_,h=>h.elim
 | _::_,[],h=>h.elim
theorem dV.weak (hl:∀k,k<w.heap.size->A k->A' k):∀{bs:List Nat} {xs:List Fun},dV w A bs xs->dV w A' bs xs
 | [],[],h=>trivial
 | b::bs,x::xs,h=>⟨ji.weak h.1 hl,dV.weak hl h.2⟩
 | [],_::_,h=>h.elim
 | _::_,[],h=>h.elim
theorem dV.snoc:∀{bs:List Nat} {xs:List Fun} {b:Nat} {x:Fun},dV w A bs xs->ji w A b x->dV w A (bs++[b]) (xs++[x])
 | [],[],b,x,_,h=>⟨h,trivial⟩
 | c::bs,y::xs,b,x,h,hx=>⟨h.1,dV.snoc h.2 hx⟩
 | [],_::_,b,x,h,_=>h.elim
 | _::_,[],b,x,h,_=>h.elim
section
open Go.Proofs.Tryz
theorem Lm (k:Nat) (hk:k<=64):bits .andNot .u64 0 ((2^k-1:Nat):Int)=0:=by
 have:=MK 0 k (by decide) hk
 simpa using this
theorem Ll {k:Nat} (h:n%256=0) (hn:n<=16384) (hk:k<=3):bits .andNot .u64 ((n+(2^k-1):Nat):Int) ((2^k-1:Nat):Int)=(n:Int):=by
 have a:2^k<=8:=by have:=tZ (n:=2) (by decide) hk;simpa using this
 rw[MK _ k (by omega) (by omega)];congr 1
 match k,hk with
 | 0,_=>omega
 | 1,_=>omega
 | 2,_=>omega
 | 3,_=>omega
theorem js (w:World) (n e:Nat) (h:n%256=0) (hn:n<=16384) (he:e<=3):
  Calls prog 236 #[.int .u32 0,.int .u64 n,.int .i64 e] w λx w'=>x=.returned (.tuple #[.int .u64 0,.int .u64 n])/\w=w':=by
 have a:=Lm e (by omega);have b:=Ll h hn he
 match e,he with
 | 0,_ =>
  simp at a b
  go_enter func236,ntmps236
  go_wp2_with fail;go_ret2;exact⟨rfl,rfl⟩
 | 1,_ =>
  simp at a b
  go_enter func236,ntmps236
  go_wp2_with fail;go_ret2;exact⟨rfl,rfl⟩
 | 2,_ =>
  simp at a b
  go_enter func236,ntmps236
  go_wp2_with fail;go_ret2;exact⟨rfl,rfl⟩
 | 3,_ =>
  simp at a b
  go_enter func236,ntmps236
  go_wp2_with fail;go_ret2;exact⟨rfl,rfl⟩
def AQ (n:Nat):Nat:=if n<=2048 then 0 else if n<=4096 then 1 else if n<=8192 then 2 else 3
theorem vw (w:World) (n:Nat) (h:n%256=0) (hn:n<=16384):
  Calls prog 235 #[.int .u32 0,.int .u64 n] w λx w'=>x=.returned (.int .i64 (AQ n))/\w=w':=by
 have a:=aa (js w n 0 h hn (by omega));have b:=aa (js w n 1 h hn (by omega));have c:=aa (js w n 2 h hn (by omega));have d:=aa (js w n 3 h hn (by omega))
 go_enter func235,ntmps235
 go_wp2_with fail;refine bC 22 ?_;rw[aO];go_wp2_with fail;refine a.mono ?_;rintro e u ⟨rfl,rfl⟩
 by_cases c0:n<=2048
 ·have f:decide ((n:Int)<=2048)=true:=by simp;omega
  go_wp2_with fail;go_ret;exact⟨by show Ending.returned (.int .i64 0)=_;unfold AQ;simp[c0],rfl⟩
 have f:decide ((n:Int)<=2048)=false:=by simp;omega
 go_wp2_with fail;rw[aO];go_wp2_with fail;refine b.mono ?_;rintro e u ⟨rfl,rfl⟩
 by_cases c1:n<=4096
 ·have g:decide ((n:Int)<=4096)=true:=by simp;omega
  go_wp2_with fail;go_ret;exact⟨by show Ending.returned (.int .i64 1)=_;unfold AQ;simp[c0,c1],rfl⟩
 have g:decide ((n:Int)<=4096)=false:=by simp;omega
 go_wp2_with fail;rw[aO];go_wp2_with fail;refine c.mono ?_;rintro e u ⟨rfl,rfl⟩
 by_cases c2:n<=8192
 ·have i:decide ((n:Int)<=8192)=true:=by simp;omega
  go_wp2_with fail;go_ret;exact⟨by show Ending.returned (.int .i64 2)=_;unfold AQ;simp[c0,c1,c2],rfl⟩
 have i:decide ((n:Int)<=8192)=false:=by simp;omega
 go_wp2_with fail;rw[aO];go_wp2_with fail;refine d.mono ?_;rintro e u ⟨rfl,rfl⟩;have j:decide ((n:Int)<=16384)=true:=by simp;omega
 go_wp2_with fail;go_ret;exact⟨by show Ending.returned (.int .i64 3)=_;unfold AQ;simp[c0,c1,c2],rfl⟩
theorem IF (w:World) (n:Nat) (h:n%256=0) (hn:n<=16384):
  Calls prog 233 #[.int .u32 n] w λx w'=>x=.returned (.tuple #[.int .u32 n,.int .u32 ((2^AQ n:Nat):Int)])/\∃k,w'=w.drewN k:=by
 have d:AQ n<=3:=by unfold AQ;split<;>(try split)<;>(try split)<;>omega
 have b:=aa (vw w n h hn);have c:=aa (js w n (AQ n) h hn d);obtain⟨e,a⟩:∃e,AQ n=e:=⟨_,rfl⟩;rw[a]at b c d ⊢;clear a;have f:((n:Int)==4294967296)=false:=by simp;omega
 go_enter func233,ntmps233
 go_wp2_with fail;refine b.mono ?_;rintro e u ⟨rfl,rfl⟩;go_wp2_with fail;refine c.mono ?_;rintro e u ⟨rfl,rfl⟩;obtain rfl|rfl|rfl|rfl:e=0\/e=1\/e=2\/e=3:=by omega
 all_goals
  go_wp2_with fail
  go_quiet (fail)
  go_wp2_with fail;go_ret2;exact⟨rfl,_,rfl⟩
def pgs (n:Nat):Nat:=256*((n+255)/256)
theorem D7 (n:Nat) (h:n+255<4294967296):bits .andNot .u32 ((n:Int)+256-1) 255=((pgs n:Nat):Int):=by
 have:=M3 (n+255) 8 h (by omega);rw[show(2^8-1:Nat)=255 by decide]at this;rw[show((255:Int))=((255:Nat):Int) by rfl,show(n:Int)+256-1=((n+255:Nat):Int) by omega,this];unfold pgs;congr 1;omega
theorem uo (w:World) (n:Nat) (hn:n<=16384):
  Calls prog 190 #[.int .i64 n] w λx w'=>x=.returned (.tuple #[.int .u32 (pgs n),.int .u32 256])/\∃k,w'=w.drewN k:=by
 have c:pgs n<=16384/\pgs n%256=0:=by unfold pgs;omega
 have b:=aa (IF w (pgs n) c.2 c.1);have d:AQ (pgs n)<=3:=by unfold AQ;split<;>(try split)<;>(try split)<;>omega
 have A:=D7 n (by omega);obtain⟨q,f⟩:∃q,pgs n=q:=⟨_,rfl⟩;obtain⟨e,a⟩:∃e,AQ q=e:=⟨_,rfl⟩;rw[f]at b A d ⊢;rw[a]at b d;clear f a c
 go_enter func190,ntmps190
 go_wp2_with fail;refine b.mono ?_;rintro e u ⟨rfl,g,rfl⟩;obtain rfl|rfl|rfl|rfl:e=0\/e=1\/e=2\/e=3:=by omega
 all_goals
  go_wp2_with fail;go_ret2;exact⟨rfl,_,rfl⟩
abbrev rgO (a s:Nat):Array Value:=#[.int .u32 a,.int .u32 s]
theorem pZ {o2:Obj} (h:w.heap.size=b):((w.alloc o).alloc o2).heap[b]?=some o:=by
 subst h;exact(dF (w.alloc o) o2 (r:=w.heap.size) (by simp)).trans (af _ _)
theorem dw (h:w.heap.size=b):(w.alloc o).heap[b]?=some o:=by subst h;exact af _ _
theorem zA {B:Nat} {a:World} (h:Below B a w) (n:Nat):Below B a (w.drewN n):=⟨h.os,h.tape,h.output,h.size,h.block⟩
theorem pM (w:World) (B at' size:Nat) (hB:One w B (.int .u32 at') 40) (h:at'%256=0) (h1:at'+size+256<4294967296):
  Calls prog 189 #[.int .u32 size,.int .u32 256,pB B] w λx w'=>x=.returned (.agg (rgO at' size))/\Chg (·=B) w w'/\One w' B (.int .u32 ((at'+size:Nat):Int)) 40:=by
 have A:=D7 at' (by omega);rw[show pgs at'=at' by unfold pgs;omega]at A;have b:=hB.c;have c:=aD w B 0 _ _ hB;have d:=aH b;have a:=aa hB;clear hB
 go_enter func189,ntmps189
 go_wp2_with fail;refine aN (results_cell_row (p:=5) rfl _ _ w.heap.size 167 (rgO at' size) (0,0) _ rfl (pZ (by simp[World.setCell])) underlying167 rfl (by kernel_rfl)) rfl ⟨rfl,?_,?_⟩
 ·exact((((Chg.refl (·=B) w).setCell (p:=⟨B,0,none⟩) (λ_=>rfl) _).setCell (p:=⟨B,0,none⟩) (λ_=>rfl) _).alloc _).alloc _
 ·have:=aA (j:=0) (aA (j:=0) a.out (.int .u32 at')) (.int .u32 ((at'+size:Nat):Int))
  exact(One.below (One.below this (az)) (az))
abbrev ig (pages stack:Nat) (cv sv:Value):Array Value:=#[.int .i64 pages,.int .i64 stack,.int .i64 0,cv,.string ⟨#[]⟩,.slice none 0 0,sv]
theorem IB (n:Nat):pgs n%256=0:=by unfold pgs;omega
abbrev z8:Array Value:=#[.int .u32 0,.int .u32 0,.int .u32 0,.int .u32 0,.int .u32 0,.int .u32 0,.int .u32 0,.int .u32 0]
structure LY (w0 u:World) (img:Array Value) (at':Nat):Prop where
 bel:Below w0.heap.size w0 u
 img:u.heap[w0.heap.size]?=some (.cells img 37 (0,0))
 res:u.heap[w0.heap.size+1]?=some (.cells z8 169 (0,0))
 b:One u (w0.heap.size+1+1) (.int .u32 at') 40
theorem LY.step {v:World} {a':Nat} (h:LY w0 u img a) (hc:Chg (·=w0.heap.size+1+1) u v) (hb:One v (w0.heap.size+1+1) (.int .u32 a') 40):LY w0 v img a':=
 ⟨hc.below h.bel λi hi=>by omega,by rw[hc.block _ (ab h.img) (by omega)];exact h.img,by rw[hc.block _ (ab h.res) (by omega)];exact h.res,hb⟩
theorem LY.on {v:World} (h:LY w0 u img a) (hb:Below u.heap.size u v):LY w0 v img a:=h.step (Chg.of_below hb) (h.b.below hb)
theorem LY.set (h:LY w0 u img a) (hp:w0.heap.size+1+1<p.block) (v:Value):LY w0 (u.setCell p v) img a:=by
 have b:Chg (·=p.block) u (u.setCell p v):=(Chg.refl (·=p.block) u).setCell (p:=p) (λ_=>rfl) v;exact⟨b.below h.bel λi hi=>by omega,by rw[b.block _ (ab h.img) (by omega)];exact h.img,by rw[b.block _ (ab h.res) (by omega)];exact h.res,h.b.chg b (by omega)⟩
theorem LY.c {pages stack:Nat} {cv sv:Value} (h:LY w0 u (ig pages stack cv sv) a):u.cell? ⟨w0.heap.size,0,none⟩=some (.int .i64 pages)/\u.cell? ⟨w0.heap.size,1,none⟩=some (.int .i64 stack)/\u.cell? ⟨w0.heap.size,4,none⟩=some (.string ⟨#[]⟩)/\u.cell? ⟨w0.heap.size,6,none⟩=some sv:=
 ⟨(ae h.img 0).trans rfl,(ae h.img 1).trans rfl,(ae h.img 4).trans rfl,(ae h.img 6).trans rfl⟩
theorem LY.start (w:World) (img:Array Value):LY w (((w.alloc (.cells img 37)).alloc (.cells z8 169)).alloc (.cells #[.int .u32 0] 40)) img 0:=
 ⟨((az).alloc (by simp) _).alloc (by simp;omega) _,(dF ((w.alloc (.cells img 37)).alloc (.cells z8 169)) _ (r:=w.heap.size) (by simp;omega)).trans (pZ rfl),pZ (by simp),dw (by simp)⟩
theorem qe {j:Nat} {cs:Array Value} {T:TypeId} (h:w.heap[b]?=some (.cells cs T (0,0))) (hj:j+1<cs.size):
  (w.cell? ⟨b,j,none⟩=some (cs[j]'(by omega))/\w.frozen? ⟨b,j,none⟩=false)/\w.cell? ⟨b,j+1,none⟩=some (cs[j+1]'hj)/\w.frozen? ⟨b,j+1,none⟩=false:=
 ⟨⟨(ae h j).trans (mB (by omega)),aD w b j _ _ h⟩,(ae h (j+1)).trans (mB hj),aD w b (j+1) _ _ h⟩
theorem vH {c0 c1 c2 c3 c4 c5 c6 c7:Value} {T:TypeId} (h:w.heap[b]?=some (.cells #[c0,c1,c2,c3,c4,c5,c6,c7] T (0,0))):
  (w.cell? ⟨b,0,none⟩=some c0/\w.cell? ⟨b,1,none⟩=some c1/\w.cell? ⟨b,2,none⟩=some c2/\w.cell? ⟨b,3,none⟩=some c3/\w.cell? ⟨b,4,none⟩=some c4/\w.cell? ⟨b,5,none⟩=some c5/\w.cell? ⟨b,6,none⟩=some c6/\w.cell? ⟨b,7,none⟩=some c7)/\(w.frozen? ⟨b,0,none⟩=false/\w.frozen? ⟨b,1,none⟩=false/\w.frozen? ⟨b,2,none⟩=false/\w.frozen? ⟨b,3,none⟩=false/\w.frozen? ⟨b,4,none⟩=false/\w.frozen? ⟨b,5,none⟩=false/\w.frozen? ⟨b,6,none⟩=false/\w.frozen? ⟨b,7,none⟩=false):=
 ⟨⟨(ae h 0).trans rfl,(ae h 1).trans rfl,(ae h 2).trans rfl,(ae h 3).trans rfl,(ae h 4).trans rfl,(ae h 5).trans rfl,(ae h 6).trans rfl,(ae h 7).trans rfl⟩,⟨aD w b 0 _ _ h,aD w b 1 _ _ h,aD w b 2 _ _ h,aD w b 3 _ _ h,aD w b 4 _ _ h,aD w b 5 _ _ h,aD w b 6 _ _ h,aD w b 7 _ _ h⟩⟩
theorem LY.lay8 (h:LY w0 u img a) (c0 c1 c2 c3 c4 c5 c6 c7:Value):
  ((((((((u.setCell ⟨w0.heap.size+1,0,none⟩ c0).setCell ⟨w0.heap.size+1,1,none⟩ c1).setCell ⟨w0.heap.size+1,2,none⟩ c2).setCell ⟨w0.heap.size+1,3,none⟩ c3).setCell ⟨w0.heap.size+1,4,none⟩ c4).setCell ⟨w0.heap.size+1,5,none⟩ c5).setCell ⟨w0.heap.size+1,6,none⟩ c6).setCell ⟨w0.heap.size+1,7,none⟩ c7).heap[w0.heap.size+1]?=some (.cells #[c0,c1,c2,c3,c4,c5,c6,c7] 169 (0,0))/\Below w0.heap.size w0 ((((((((u.setCell ⟨w0.heap.size+1,0,none⟩ c0).setCell ⟨w0.heap.size+1,1,none⟩ c1).setCell ⟨w0.heap.size+1,2,none⟩ c2).setCell ⟨w0.heap.size+1,3,none⟩ c3).setCell ⟨w0.heap.size+1,4,none⟩ c4).setCell ⟨w0.heap.size+1,5,none⟩ c5).setCell ⟨w0.heap.size+1,6,none⟩ c6).setCell ⟨w0.heap.size+1,7,none⟩ c7):=by
 have b:=h.bel;have l:(u.setCell ⟨w0.heap.size+1,0,none⟩ c0).heap[w0.heap.size+1]?=some (.cells #[c0,.int .u32 0,.int .u32 0,.int .u32 0,.int .u32 0,.int .u32 0,.int .u32 0,.int .u32 0] 169 (0,0)):=aA (j:=0) h.res c0;have c:=b.setCell (p:=⟨w0.heap.size+1,0,none⟩) (by show w0.heap.size<=w0.heap.size+1;omega) c0;have m:((u.setCell ⟨w0.heap.size+1,0,none⟩ c0).setCell ⟨w0.heap.size+1,1,none⟩ c1).heap[w0.heap.size+1]?=some (.cells #[c0,c1,.int .u32 0,.int .u32 0,.int .u32 0,.int .u32 0,.int .u32 0,.int .u32 0] 169 (0,0)):=aA (j:=1) l c1;have d:=c.setCell (p:=⟨w0.heap.size+1,1,none⟩) (by show w0.heap.size<=w0.heap.size+1;omega) c1;have n:(((u.setCell ⟨w0.heap.size+1,0,none⟩ c0).setCell ⟨w0.heap.size+1,1,none⟩ c1).setCell ⟨w0.heap.size+1,2,none⟩ c2).heap[w0.heap.size+1]?=some (.cells #[c0,c1,c2,.int .u32 0,.int .u32 0,.int .u32 0,.int .u32 0,.int .u32 0] 169 (0,0)):=aA (j:=2) m c2;have e:=d.setCell (p:=⟨w0.heap.size+1,2,none⟩) (by show w0.heap.size<=w0.heap.size+1;omega) c2;have o:((((u.setCell ⟨w0.heap.size+1,0,none⟩ c0).setCell ⟨w0.heap.size+1,1,none⟩ c1).setCell ⟨w0.heap.size+1,2,none⟩ c2).setCell ⟨w0.heap.size+1,3,none⟩ c3).heap[w0.heap.size+1]?=some (.cells #[c0,c1,c2,c3,.int .u32 0,.int .u32 0,.int .u32 0,.int .u32 0] 169 (0,0)):=aA (j:=3) n c3;have f:=e.setCell (p:=⟨w0.heap.size+1,3,none⟩) (by show w0.heap.size<=w0.heap.size+1;omega) c3;have q:(((((u.setCell ⟨w0.heap.size+1,0,none⟩ c0).setCell ⟨w0.heap.size+1,1,none⟩ c1).setCell ⟨w0.heap.size+1,2,none⟩ c2).setCell ⟨w0.heap.size+1,3,none⟩ c3).setCell ⟨w0.heap.size+1,4,none⟩ c4).heap[w0.heap.size+1]?=some (.cells #[c0,c1,c2,c3,c4,.int .u32 0,.int .u32 0,.int .u32 0] 169 (0,0)):=aA (j:=4) o c4;have g:=f.setCell (p:=⟨w0.heap.size+1,4,none⟩) (by show w0.heap.size<=w0.heap.size+1;omega) c4;have r:((((((u.setCell ⟨w0.heap.size+1,0,none⟩ c0).setCell ⟨w0.heap.size+1,1,none⟩ c1).setCell ⟨w0.heap.size+1,2,none⟩ c2).setCell ⟨w0.heap.size+1,3,none⟩ c3).setCell ⟨w0.heap.size+1,4,none⟩ c4).setCell ⟨w0.heap.size+1,5,none⟩ c5).heap[w0.heap.size+1]?=some (.cells #[c0,c1,c2,c3,c4,c5,.int .u32 0,.int .u32 0] 169 (0,0)):=aA (j:=5) q c5;have i:=g.setCell (p:=⟨w0.heap.size+1,5,none⟩) (by show w0.heap.size<=w0.heap.size+1;omega) c5;have s:(((((((u.setCell ⟨w0.heap.size+1,0,none⟩ c0).setCell ⟨w0.heap.size+1,1,none⟩ c1).setCell ⟨w0.heap.size+1,2,none⟩ c2).setCell ⟨w0.heap.size+1,3,none⟩ c3).setCell ⟨w0.heap.size+1,4,none⟩ c4).setCell ⟨w0.heap.size+1,5,none⟩ c5).setCell ⟨w0.heap.size+1,6,none⟩ c6).heap[w0.heap.size+1]?=some (.cells #[c0,c1,c2,c3,c4,c5,c6,.int .u32 0] 169 (0,0)):=aA (j:=6) r c6;have k:=i.setCell (p:=⟨w0.heap.size+1,6,none⟩) (by show w0.heap.size<=w0.heap.size+1;omega) c6;have t:((((((((u.setCell ⟨w0.heap.size+1,0,none⟩ c0).setCell ⟨w0.heap.size+1,1,none⟩ c1).setCell ⟨w0.heap.size+1,2,none⟩ c2).setCell ⟨w0.heap.size+1,3,none⟩ c3).setCell ⟨w0.heap.size+1,4,none⟩ c4).setCell ⟨w0.heap.size+1,5,none⟩ c5).setCell ⟨w0.heap.size+1,6,none⟩ c6).setCell ⟨w0.heap.size+1,7,none⟩ c7).heap[w0.heap.size+1]?=some (.cells #[c0,c1,c2,c3,c4,c5,c6,c7] 169 (0,0)):=aA (j:=7) s c7;have b8:=k.setCell (p:=⟨w0.heap.size+1,7,none⟩) (by show w0.heap.size<=w0.heap.size+1;omega) c7;exact⟨t,b8⟩
theorem gK {P:Program} {fn:Func} {p u:Tmp} {ty:TypeId} (h:fn.results=#[.cell p ty,.tmp u]) (tmps:Array Value) (w:World) (g:Nat) (t:TypeId) (cs:Array Value) (fr:Nat×Nat) (d:TypeDesc)
 (hp:tmps.getD p undef=.pointer (some ⟨g,0,none⟩)) (hg:w.heap[g]?=some (.cells cs t fr))
 (hu:P.underlying ty=some d) (hd:(match d with | .struct _ | .array _ _=>true|_=>false)=true) (hi:(P.info? ty).map (·.size)=some cs.size):
  (results fn tmps).run P w=.ok (.tuple #[.agg cs,tmps.getD u undef]) w:=by
 rw[results_cell_tmp h,hp];simp[asAddr,run_loadVar_row w g t ty cs fr d hg hu hd hi]
theorem AF (w:World) (pages stack n c1 c2:Nat) (a1 a2:Option Addr) (hn:n<=4096) (hs:stack%256=0) (hs2:stack<=4096) (hp:pages<=1024):
  Calls prog 135 #[.agg (ig pages stack (.slice a1 n c1) (.slice a2 1 c2))] w λe w'=>Below w.heap.size w w'/\∃q0 q1 q2 q3 q4 q5 q6 q7:Int,e=.returned (.tuple #[.agg #[.int .u32 q0,.int .u32 q1,.int .u32 q2,.int .u32 q3,.int .u32 q4,.int .u32 q5,.int .u32 q6,.int .u32 q7],.bool (lh n stack pages)]):=by
 have HL:=aa (LY.start w (ig pages stack (.slice a1 n c1) (.slice a2 1 c2)))
 go_enter func135,ntmps135
 go_wp2_with fail;generalize((w.alloc (.cells (ig pages stack (.slice a1 n c1) (.slice a2 1 c2)) 37)).alloc (.cells z8 169)).alloc (.cells #[.int .u32 0] 40)=w1 at HL ⊢;have HS:=aa (uo w1 (4*n) (by omega));rw[show((4*n:Nat):Int)=4*(n:Int) by omega]at HS;refine HS.mono ?_;rintro e u ⟨rfl,k,rfl⟩;have l:=aa (HL.on (zA (ai _ _) k));have a4:=IB (4*n);have a5:pgs (4*n)<=16384:=by unfold pgs;omega
 obtain⟨q,hq⟩:∃q,pgs (4*n)=q:=⟨_,rfl⟩;rw[hq]at a4 a5 ⊢;generalize w1.drewN k=w2 at l ⊢;clear HL HS;have HP:=aa (pM w2 _ 0 q l.b (by omega) (by omega));go_wp2_with fail;refine HP.mono ?_;rintro e u3 ⟨rfl,W,F⟩;rw[cA]at F;have y:=aa (l.step W F);clear W F HP l
 go_upto_region 4 with fail
 have m:=aa (y.on ((ai _ _).alloc (ag _) (.cells #[.int .u32 0,.int .u32 q,.int .u32 0,.int .u32 0,.int .u32 0,.int .u32 0,.int .u32 0,.int .u32 0] 169)));have s:=aa (dw (w:=u3) (o:=.cells #[.int .u32 0,.int .u32 q,.int .u32 0,.int .u32 0,.int .u32 0,.int .u32 0,.int .u32 0,.int .u32 0] 169) rfl);have d:w.heap.size+1+1<u3.heap.size:=ab y.b;obtain⟨b,x⟩:∃b,u3.heap.size=b:=⟨_,rfl⟩;rw[x]at s d ⊢;generalize u3.alloc (.cells #[.int .u32 0,.int .u32 q,.int .u32 0,.int .u32 0,.int .u32 0,.int .u32 0,.int .u32 0,.int .u32 0] 169)=w4 at m s ⊢;clear y x;obtain⟨Y,Z,i4,i6⟩:=m.c;go_wp2_with fail;refine(uo w4 0 (by omega)).mono ?_;rintro e u ⟨rfl,k5,rfl⟩;have r:=aa (m.on (zA (ai _ _) k5));have A:=aa (pM (w4.drewN k5) _ q 0 r.b (by omega) (by omega));rw[show pgs 0=0 from rfl];have t:Hid ((w4.drewN k5).heap[b]?=some (.cells #[.int .u32 0,.int .u32 q,.int .u32 0,.int .u32 0,.int .u32 0,.int .u32 0,.int .u32 0,.int .u32 0] 169 (0,0))):=s;generalize w4.drewN k5=w5 at r A t ⊢;clear m s Y Z i4 i6;go_wp2_with fail;refine A.mono ?_;rintro e u6 ⟨rfl,H,G⟩;rw[Nat.add_zero]at G;have O:=aa (r.step H G);have J:u6.heap[b]?=some (.cells #[.int .u32 0,.int .u32 q,.int .u32 0,.int .u32 0,.int .u32 0,.int .u32 0,.int .u32 0,.int .u32 0] 169 (0,0)):=by rw[H.block _ (ab t.out) (by omega)];exact t.out
 have s2:=qe (j:=2) J (cd rfl);have S:=aa J;clear H G A r t J
 go_upto_region 5 with fail
 have f:=aa ((O.set (p:=⟨b,2,none⟩) d (.int .u32 q)).set (p:=⟨b,3,none⟩) d (.int .u32 0));have C:=aa (aA (j:=3) (aA (j:=2) S.out (.int .u32 q)) (.int .u32 0));generalize(u6.setCell ⟨b,2,none⟩ (.int .u32 q)).setCell ⟨b,3,none⟩ (.int .u32 0)=w7 at f C ⊢;clear O S s2;have g:Hid (w7.heap[b]?=some (.cells #[.int .u32 0,.int .u32 q,.int .u32 q,.int .u32 0,.int .u32 0,.int .u32 0,.int .u32 0,.int .u32 0] 169 (0,0))):=C;clear C;obtain⟨Y,Z,i4,i6⟩:=f.c;have R:=aa (pM w7 _ q stack f.b (by omega) (by omega));go_wp2_with fail;refine R.mono ?_;rintro e u8 ⟨rfl,I,V⟩;have P:=aa (f.step I V);have K:u8.heap[b]?=_:=(I.block _ (ab g.out) (by omega)).trans g.out;have s4:=qe (j:=4) K (cd rfl);have T:=aa K;clear I V R f g K Y Z i4 i6
 go_upto_region 6 with fail
 have c:=aa ((P.set (p:=⟨b,4,none⟩) d (.int .u32 q)).set (p:=⟨b,5,none⟩) d (.int .u32 stack));have D:=aa (aA (j:=5) (aA (j:=4) T.out (.int .u32 q)) (.int .u32 stack));generalize(u8.setCell ⟨b,4,none⟩ (.int .u32 q)).setCell ⟨b,5,none⟩ (.int .u32 stack)=w9 at c D ⊢;clear P T s4;have h:Hid (w9.heap[b]?=some (.cells #[.int .u32 0,.int .u32 q,.int .u32 q,.int .u32 0,.int .u32 q,.int .u32 stack,.int .u32 0,.int .u32 0] 169 (0,0))):=D;clear D;obtain⟨a,M⟩:∃a,q+stack=a:=⟨_,rfl⟩;rw[M]at c;obtain⟨Y,Z,i4,i6⟩:=c.c;have b9:=c.b.c;have HQ:=aa (show lh n stack pages=decide (a+256<=256*pages) by rw[<- M,<- hq];rfl);have a6:a<=20480:=by omega
 have X:a%256=0:=by omega
 clear hq M
 by_cases hok:a+256<=256*pages
 ·have hd:decide ((pages:Int)*256<(a:Int)+256)=false:=by simp;omega
  have B:=aa (pM w9 _ a (256*pages-a) c.b X (by omega));rw[show((256*pages-a:Nat):Int)=(pages:Int)*256-(a:Int) by omega]at B;go_wp2_with fail;refine B.mono ?_;rintro e a0 ⟨rfl,i,v⟩;have Q:=aa (c.step i v);have L:a0.heap[b]?=_:=(i.block _ (ab h.out) (by omega)).trans h.out;have s6:=qe (j:=6) L (cd rfl);have U:=aa L;clear i v B c h L Y Z i4 i6 b9
  go_upto_region 10 with fail
  have z:=aa ((Q.set (p:=⟨b,6,none⟩) d (.int .u32 a)).set (p:=⟨b,7,none⟩) d (.int .u32 ((256*pages-a:Nat):Int)));have E:=aa (aA (j:=7) (aA (j:=6) U.out (.int .u32 a)) (.int .u32 ((256*pages-a:Nat):Int)));generalize(a0.setCell ⟨b,6,none⟩ (.int .u32 a)).setCell ⟨b,7,none⟩ (.int .u32 ((256*pages-a:Nat):Int))=wb at z E ⊢;clear Q U s6;have a3:Hid (wb.heap[b]?=some (.cells #[.int .u32 0,.int .u32 q,.int .u32 q,.int .u32 0,.int .u32 q,.int .u32 stack,.int .u32 a,.int .u32 ((256*pages-a:Nat):Int)] 169 (0,0))):=E;clear E;obtain⟨⟨r0,r1,r2,r3,r4,r5,r6,r7⟩,⟨f0,f1,f2,f3,f4,f5,f6,f7⟩⟩:=vH z.res;obtain⟨⟨k0,k1,k2,k3,k4,k5,k6,k7⟩,_⟩:=vH a3.out;go_wp2_with fail;have N:=aa (z.lay8 (.int .u32 0) (.int .u32 q) (.int .u32 q) (.int .u32 0) (.int .u32 q) (.int .u32 stack) (.int .u32 a) (.int .u32 ((256*pages-a:Nat):Int)));exact aN (gK (p:=2) (u:=3) rfl _ _ (w.heap.size+1) 169 _ (0,0) _ rfl N.out.1 underlying169 rfl (by kernel_rfl)) rfl ⟨N.out.2,_,_,_,_,_,_,_,_,by rw[HQ.out,dr hok];rfl⟩
 ·have hd:decide ((pages:Int)*256<(a:Int)+256)=true:=by simp;omega
  obtain⟨⟨r0,r1,r2,r3,r4,r5,r6,r7⟩,⟨f0,f1,f2,f3,f4,f5,f6,f7⟩⟩:=vH c.res;go_wp2_with fail;have N:=aa (c.lay8 (.int .u32 0) (.int .u32 0) (.int .u32 0) (.int .u32 0) (.int .u32 0) (.int .u32 0) (.int .u32 0) (.int .u32 0));exact aN (gK (p:=2) (u:=3) rfl _ _ (w.heap.size+1) 169 z8 (0,0) _ rfl N.out.1 underlying169 rfl (by kernel_rfl)) rfl ⟨N.out.2,_,_,_,_,_,_,_,_,by rw[HQ.out,iV hok];rfl⟩
def zF (w:World) (G n:Nat):Prop:=∀j,j<n->w.cell? ⟨G,j,none⟩=some (.bool false)
theorem AJ (w:World) (G n c:Nat) (h:zF w G n) (hn:n<=1000):
  Calls prog 232 #[.slice (some ⟨G,0,none⟩) n c,.bool true] w λx w'=>x=.returned (.int .i64 (-1))/\w=w':=by
 have H:=aa h;clear h
 go_enter func232,ntmps232
 go_wp2_with fail
 go_loopw [5,8] (λ_ s8 wr=>∃j:Nat,s8=.int .i64 j/\j<=n/\w=wr) (λ_ s8 _=>match s8 with | .int _ j=>n-j.toNat|_=>0)
 case atStart=>exact⟨0,rfl,aV _,rfl⟩
 case round =>
  obtain⟨j,rfl,e,rfl⟩:=hrel
  by_cases hlt:j<n
  ·have a:decide ((j:Int)<(n:Int))=true:=by simp;omega
   have b:=H.out j hlt;have d:n-((j:Int)+1).toNat<n-(j:Int).toNat:=by omega
   go_wp2_with fail;exact⟨⟨j+1,by simp,hlt,trivial⟩,d⟩
  ·have a:decide ((j:Int)<(n:Int))=false:=by simp;omega
   go_wp2_with fail;go_ret;exact⟨rfl,rfl⟩
theorem tF (w:World) (G n c:Nat) (h:zF w G n) (hn:n<=1000):
  Calls prog 187 #[.slice (some ⟨G,0,none⟩) n c,.bool true] w λx w'=>x=.returned (.bool false)/\w=w':=by
 go_enter func187,ntmps187
 go_wp2_with fail;refine(AJ w G n c h hn).mono ?_;rintro e u ⟨rfl,rfl⟩;go_wp2_with fail;go_ret;exact⟨rfl,rfl⟩
theorem yR (w:World) (G n c:Nat) (h:zF w G n) (hn:n<=1000):
  Calls prog 132 #[.slice (some ⟨G,0,none⟩) n c] w λx w'=>x=.returned (.bool true)/\w=w':=by
 go_enter func132,ntmps132
 go_wp2_with fail;refine(tF w G n c h hn).mono ?_;rintro e u ⟨rfl,rfl⟩;go_wp2_with fail;go_ret;exact⟨rfl,rfl⟩
theorem qt (w:World):Calls prog 131 #[.int .i64 4] w λe w'=>e=.returned (.bool true)/\w=w':=by
 go_enter func131,ntmps131
 go_wp2_with fail;go_ret;exact⟨rfl,rfl⟩
theorem EU (w:World) (B:Nat) (v:Int) (h0:0<=v) (h1:v<4294967296) (x0 x1 x2 x3:Value) (hB:w.heap[B]?=some (.cells #[x0,x1,x2,x3] 287 (0,0))):
  Calls prog 186 #[.slice (some ⟨B,0,none⟩) 4 4,.int .i64 0,.int .i64 4,.int .u32 v] w λe w'=>e=.returned (.bool true)/\Chg (·=B) w w'/\w'.heap[B]?=some (.cells #[.int .u8 (v%256),.int .u8 (v/256%256),.int .u8 (v/65536%256),.int .u8 (v/16777216%256)] 287 (0,0)):=by
 have c:w.cell? ⟨B,0,none⟩=some x0:=(ae hB 0).trans rfl;have c1:w.cell? ⟨B,1,none⟩=some x1:=(ae hB 1).trans rfl;have c2:w.cell? ⟨B,2,none⟩=some x2:=(ae hB 2).trans rfl;have d:w.cell? ⟨B,3,none⟩=some x3:=(ae hB 3).trans rfl;have f:=aD w B 0 _ _ hB;have g:=aD w B 1 _ _ hB;have h:=aD w B 2 _ _ hB;have i:=aD w B 3 _ _ hB;have a:=aa hB;clear hB
 go_enter func186,ntmps186
 go_wp2_with fail;refine(qt w).mono ?_;rintro e u ⟨rfl,rfl⟩;go_wp2_with fail;refine bC 5 ?_;rw[aO];go_wp2_with fail;rw[aO];go_wp2_with fail;rw[aO];go_wp2_with fail;rw[aO];go_wp2_with fail;rw[aO];go_wp2_with fail;go_ret;have b:v/16777216%256=v/16777216:=by omega
 rw[b];refine⟨rfl,?_,?_⟩
 ·exact((((Chg.refl (·=B) _).setCell (p:=⟨B,0,none⟩) (λ_=>rfl) _).setCell (p:=⟨B,1,none⟩) (λ_=>rfl) _).setCell (p:=⟨B,2,none⟩) (λ_=>rfl) _).setCell (p:=⟨B,3,none⟩) (λ_=>rfl) _
 ·exact aA (j:=3) (aA (j:=2) (aA (j:=1) (aA (j:=0) a.out _) _) _) _
theorem Iu (w:World) (v:Int) (h0:0<=v) (h1:v<4294967296):Calls prog 127 #[.string ⟨#[]⟩,.int .i64 4,.int .u32 v] w λe w'=>e=.returned (.string ⟨(le4 v).toArray⟩)/\Below w.heap.size w w':=by
 generalize c:w.alloc (.cells #[.int .u8 0,.int .u8 0,.int .u8 0,.int .u8 0] 287)=w1;have hn:w1.heap[w.heap.size]?=some (.cells #[.int .u8 0,.int .u8 0,.int .u8 0,.int .u8 0] 287 (0,0)):=by rw[<- c];exact af _ _
 have k:Below w.heap.size w w1:=by rw[<- c];exact az
 have n:=aa (EU w1 w.heap.size v h0 h1 _ _ _ _ hn);have d:=aa k;clear hn k
 go_enter func127,ntmps127
 go_wp2_with fail;refine(qt w).mono ?_;rintro e u ⟨rfl,rfl⟩;go_wp2_with fail;refine n.mono ?_;rintro e u ⟨rfl,l,a⟩;have m:=aa l;have q:=aa a;have g:u.cell? ⟨w.heap.size,0,none⟩=some (.int .u8 (v%256)):=(ae a 0).trans rfl;have c1:u.cell? ⟨w.heap.size,1,none⟩=some (.int .u8 (v/256%256)):=(ae a 1).trans rfl;have c2:u.cell? ⟨w.heap.size,2,none⟩=some (.int .u8 (v/65536%256)):=(ae a 2).trans rfl;have h:u.cell? ⟨w.heap.size,3,none⟩=some (.int .u8 (v/16777216%256)):=(ae a 3).trans rfl;have o:(convert 65 9 (.slice (some ⟨w.heap.size,0,none⟩) 4 4)).run prog u=.ok (.string ⟨(le4 v).toArray⟩) u:=by
  refine run_convert_bytes_back u 65 9 5 ⟨w.heap.size,0,none⟩ 4 (le4 v) underlying65 underlying5 underlying9 λj hj=>?_;have f:j<4:=hj;have b:(⟨w.heap.size,0,none⟩:Addr).add j=⟨w.heap.size,j,none⟩:=by unfold Addr.add;split<;>simp_all
  rw[b]
  match j,f with
  | 0,_=>rw[g];show _=some (Value.int .u8 ((b8 v).toNat:Int));rw[pk]
  | 1,_=>rw[c1];show _=some (Value.int .u8 ((b8 (v/256)).toNat:Int));rw[pk]
  | 2,_=>rw[c2];show _=some (Value.int .u8 ((b8 (v/65536)).toNat:Int));rw[pk]
  | 3,_=>rw[h];show _=some (Value.int .u8 ((b8 (v/16777216)).toNat:Int));rw[pk]
 clear l a g c1 c2 h;go_wp2_with fail;go_ret;have p:(⟨#[]⟩:ByteArray)++⟨(le4 v).toArray⟩=⟨(le4 v).toArray⟩:=ByteArray.ext (by simp[ByteArray.data_append]);exact⟨by show Ending.returned (.string _)=_;rw[p],m.below d.out λi hi=>by omega⟩
structure RdAt (w:World) (R G:Nat) (T:Tx) (off:Nat):Prop where
 b:∃o cap,T.length-off<=cap/\(off<T.length->o=off)/\One w R (.slice (some ⟨G,o,none⟩) (T.length-off) cap) 164
 bytes:∀j u,T[j]?=some u->w.cell? ⟨G,j,none⟩=some (.int .u8 (u.toNat:Int))
 off:off<=T.length
 ne:¬G=R
 len:T.length<=1000000
theorem RdAt.chg {T:Tx} (h:RdAt w R G T off) (hc:Chg S w w') (h1:¬S R) (h2:¬S G):RdAt w' R G T off:=by
 obtain⟨o,c,b,f,e⟩:=h.b;exact⟨⟨o,c,b,f,e.chg hc h1⟩,λj u hj=>by
  have d:=h.bytes j u hj;exact(aI (w:=w) (a:=⟨G,j,none⟩) (hc.block G (aH d) h2)).trans d,h.off,h.ne,h.len⟩
theorem RdAt.below {T:Tx} (h:RdAt w R G T off) (hb:Below w.heap.size w w'):RdAt w' R G T off:=h.chg (Chg.of_below (S:=λ_=>False) hb) id id
theorem zd (w:World) (R G:Nat) (T:Tx) (off:Nat) (h:RdAt w R G T off):
  Calls prog 32 #[pB R] w λe w'=>e=.returned (.int .i64 ((T.length-off:Nat):Int))/\w=w':=by
 obtain⟨o,f,a,g,b⟩:=h.b;have d:=b.c;obtain⟨k,c⟩:∃k,T.length-off=k:=⟨_,rfl⟩;rw[c]at d ⊢;clear h b c a g
 go_enter func32,ntmps32
 go_wp2_with fail;go_ret;exact⟨rfl,rfl⟩
theorem wU (a b:Int) (i:Nat) (h0:0<=a) (h1:a<4294967296) (h2:0<=b) (h3:b<4294967296) (hi:b<((2^i:Nat):Int)) (ha:a%((2^i:Nat):Int)=0):bits .or .u32 a b=a+b:=by
 have e:a.toNat%2^i=0:=by
  have:((a.toNat%2^i:Nat):Int)=0:=by rw[Int.natCast_emod,Int.toNat_of_nonneg h0];exact ha
  omega
 have c:b.toNat<2^i:=by omega
 rw[u32_or _ _ h0 h1 h2 h3,nat_join i a.toNat b.toNat e c];omega
theorem FL (w:World) (G off len cap:Nat) (a b c d:UInt8) (h4:4<=len) (hcap:len<=cap) (hl:len<=1000000) (ha:w.cell? ⟨G,off,none⟩=some (.int .u8 (a.toNat:Int))) (hb:w.cell? ⟨G,off+1,none⟩=some (.int .u8 (b.toNat:Int))) (hc:w.cell? ⟨G,off+2,none⟩=some (.int .u8 (c.toNat:Int))) (hd:w.cell? ⟨G,off+3,none⟩=some (.int .u8 (d.toNat:Int))):
  Calls prog 81 #[.slice (some ⟨G,off,none⟩) len cap,.int .i64 0,.int .i64 4] w λe w'=>e=.returned (.tuple #[.int .u32 (un4 a b c d),.bool true])/\∃k,w'=w.drewN k:=by
 have l4:decide ((len:Int)-4<0)=false:=by simp;omega
 obtain⟨A,f⟩:∃A:Int,(a.toNat:Int)=A:=⟨_,rfl⟩;obtain⟨B,g⟩:∃B:Int,(b.toNat:Int)=B:=⟨_,rfl⟩;obtain⟨C,h⟩:∃C:Int,(c.toNat:Int)=C:=⟨_,rfl⟩;obtain⟨D,i⟩:∃D:Int,(d.toNat:Int)=D:=⟨_,rfl⟩;have l:=a.toNat_lt;have m:=b.toNat_lt;have c1:=c.toNat_lt;have n:=d.toNat_lt;have j:=aa (show un4 a b c d=A+256*B+65536*C+16777216*D by unfold un4;rw[f,g,h,i]);rw[f]at ha;rw[g]at hb;rw[h]at hc;rw[i]at hd;have o:0<=A/\A<256:=by omega
 have p:0<=B/\B<256:=by omega
 have q:0<=C/\C<256:=by omega
 have r:0<=D/\D<256:=by omega
 clear f g h i l m c1 n
 go_enter func81,ntmps81
 go_wp2_with fail;refine(qt w).mono ?_;rintro e u ⟨rfl,rfl⟩;go_wp2_with fail
 go_quiet (fail)
 go_wp2_with fail;go_ret2;refine⟨?_,_,rfl⟩;show Ending.returned (.tuple #[.int .u32 (bits .or .u32 (bits .or .u32 (bits .or .u32 (D*16777216) (C*65536)) (B*256)) A),.bool true])=_;rw[wU (D*16777216) (C*65536) 24 (by omega) (by omega) (by omega) (by omega) (by simp only[Nat.reducePow];omega) (by simp only[Nat.reducePow];omega),wU _ (B*256) 16 (by omega) (by omega) (by omega) (by omega) (by simp only[Nat.reducePow];omega) (by simp only[Nat.reducePow];omega),wU _ A 8 (by omega) (by omega) (by omega) (by omega) (by simp only[Nat.reducePow];omega) (by simp only[Nat.reducePow];omega),j.out,show D*16777216+C*65536+B*256+A=A+256*B+65536*C+16777216*D by omega]
theorem Hv (w:World) (G off n cap:Nat) (T:Tx) (hb:∀j u,T[j]?=some u->w.cell? ⟨G,j,none⟩=some (.int .u8 (u.toNat:Int))) (h:off+n<=T.length):
  (convert 65 9 (.slice (some ⟨G,off,none⟩) n cap)).run prog w=.ok (.string ⟨((T.drop off).take n).toArray⟩) w:=by
 have b:((T.drop off).take n).length=n:=by rw[bN,List.length_drop];omega
 have:=run_convert_bytes_back w 65 9 5 ⟨G,off,none⟩ cap ((T.drop off).take n) underlying65 underlying5 underlying9 λj hj=>by
  have a:(⟨G,off,none⟩:Addr).add j=⟨G,off+j,none⟩:=by unfold Addr.add;split<;>simp_all
  rw[a];refine hb (off+j) _ ?_;rw[aw (by omega)];congr 1;rw[List.getElem_take,List.getElem_drop]
 rw[b]at this;exact this
theorem uI (w:World) (R G:Nat) (T:Tx) (off n:Nat) (h:RdAt w R G T off) (hn:off+n<=T.length):
  Calls prog 29 #[pB R,.int .i64 n] w λe w'=>e=.returned (.tuple #[.string ⟨((T.drop off).take n).toArray⟩,.bool true])/\Chg (·=R) w w'/\RdAt w' R G T (off+n):=by
 have t:=aa (zd w R G T off h);have c:=h.len;have d:=h.off;have H:=aa h;obtain⟨o,i,k,s,l⟩:=h.b;have C:=l.c;have L:=aD w R 0 _ _ l;have z:=aa l;have r:(convert 65 9 (.slice (some ⟨G,o,none⟩) n n)).run prog w=.ok (.string ⟨((T.drop off).take n).toArray⟩) w:=by
  by_cases he:off<T.length
  ·rw[s he];exact Hv w G off n n T h.bytes hn
  ·have D:n=0:=by omega
   subst D;rw[bO];exact run_convert_bytes_back w 65 9 5 ⟨G,o,none⟩ 0 [] underlying65 underlying5 underlying9 λj hj=>by cases hj
 have m:=aa s;obtain⟨X,v⟩:∃X:ByteArray,(⟨((T.drop off).take n).toArray⟩:ByteArray)=X:=⟨_,rfl⟩;obtain⟨len,g⟩:∃len,T.length-off=len:=⟨_,rfl⟩;have F:n<=len:=by omega
 have E:len<=1000000:=by omega
 have f:=aa g;rw[g]at t k C;rw[v]at r ⊢;have K:decide ((len:Int)<(n:Int))=false:=by simp;omega
 have J:decide ((n:Int)<0)=false:=by simp
 have I:=aa d;have A:=aa c;have B:=aa hn;clear h l v g d c hn s
 go_enter func29,ntmps29
 go_wp2_with fail;refine t.mono ?_;rintro e u ⟨rfl,rfl⟩;have b:Hid (∀o' cap',len-n<=cap'->(off+n<T.length->o'=off+n)->Chg (·=R) w (w.setCell ⟨R,0,none⟩ (.slice (some ⟨G,o',none⟩) (len-n) cap'))/\RdAt (w.setCell ⟨R,0,none⟩ (.slice (some ⟨G,o',none⟩) (len-n) cap')) R G T (off+n)):=λo' cap' h1 h2=>by
  have x:Chg (·=R) w (w.setCell ⟨R,0,none⟩ (.slice (some ⟨G,o',none⟩) (len-n) cap')):=(Chg.refl (·=R) w).setCell (p:=⟨R,0,none⟩) (λ_=>rfl) _;refine⟨x,⟨o',cap',?_,h2,?_⟩,λj u hj=>?_,B.out,H.ne,H.len⟩
  ·have:=f.out;omega
  ·rw[show T.length-(off+n)=len-n by have:=f.out;omega];exact aA (j:=0) z.out _
  ·have y:=H.bytes j u hj
   exact(aI (w:=w) (a:=⟨G,j,none⟩) (x.block G (aH y) H.ne)).trans y
 by_cases hcn:i=n
 ·have q:=aa (b.out o 0 (by omega) (by have:=f.out;omega))
  go_wp2_with fail;go_ret2;exact⟨rfl,q.out⟩
 ·have q:=aa (b.out (o+n) (i-n) (by omega) (λh=>by have:=m.out (by omega);omega))
  go_wp2_with fail;go_ret2;exact⟨rfl,q.out⟩
theorem wW (w:World) (R G:Nat) (T:Tx) (off:Nat) (a b c d:UInt8) (h:RdAt w R G T off) (ha:T[off]?=some a) (hb:T[off+1]?=some b) (hc:T[off+2]?=some c) (hd:T[off+3]?=some d):
  Calls prog 26 #[pB R,.int .i64 4] w λe w'=>e=.returned (.tuple #[.int .u32 (un4 a b c d),.bool true])/\Chg (·=R) w w'/\RdAt w' R G T (off+4):=by
 have y:=(aE.1 hd).1;obtain⟨o,j,f,r,q⟩:=h.b;have m:o=off:=r (by omega);subst m;have p:=q.c;have l:=h.len;have g:=aa (FL w G o (T.length-o) j a b c d (by omega) f (by omega) (h.bytes _ _ ha) (h.bytes _ _ hb) (h.bytes _ _ hc) (h.bytes _ _ hd));have H:=aa h;have v:=aa (show o+4<=T.length by omega);obtain⟨len,i⟩:∃len,T.length-o=len:=⟨_,rfl⟩;rw[i]at g p;clear h q ha hb hc hd f i y l r
 go_enter func26,ntmps26
 go_wp2_with fail;refine g.mono ?_;rintro e u ⟨rfl,k,rfl⟩;have n:=aa (uI (w.drewN k) R G T o 4 (H.below ⟨rfl,rfl,rfl,ag _,λ_ _=>rfl⟩) v.out);clear g p;go_wp2_with fail;refine n.mono ?_;rintro e u ⟨rfl,hc,s⟩;have t:=aa (show Chg (·=R) w u from⟨hc.os,hc.tape,hc.output,hc.size,hc.block⟩);have x:=aa s;clear hc s n;go_wp2_with fail;go_ret2;exact⟨rfl,t.out,x.out⟩
end
end Go.Proofs.YtbeaaimcpkogcaaGreatDoor
