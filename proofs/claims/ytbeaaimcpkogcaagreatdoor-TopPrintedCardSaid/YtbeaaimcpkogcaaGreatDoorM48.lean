/- Lemmas on the way to the claim. -/
import Derived.Test.YtbeaaimcpkogcaaGreatDoorM45
import Derived.Test.YtbeaaimcpkogcaaGreatDoorM47
set_option linter.unusedSimpArgs false
set_option linter.unusedVariables false
set_option maxHeartbeats 4000000
set_option maxRecDepth 100000
namespace Go.Proofs.YtbeaaimcpkogcaaGreatDoor
open Go.Proofs.Tryz Go.RowKit
variable {u w w0 w2 z:World} {b base c j k lo m mf mn n pl size sz:Nat} {v:Value} {xs:List Value} {g:GS} {L:Tx->Option Value} {s:GP} {f:Fun} {wb:Option Nat} {x:Par} {xa:Option Addr} {fs:List Fun} {l:List Nat}
structure GQ (w:World) (m mf:Nat) (s:GP) (wb:Option Nat) (lo k:Nat):Prop where
 gm:∃nv ev,GM w m (mP mf) (.int .i64 s.bytes) nv ev ⟨s.words,s.bad,0,[]⟩ wb lo
 funcs:∃sz L,bz w mf L sz/\sz<=k/\∀t wd bs,s.funcs t=some (wd,bs)->∃p mn' c' k',L t=some (pB p)/\lo<=p/\oT w p wd bs mn' c' k'
 l:lo<=mf
 bd:∀t p,s.funcs t=some p->p.1<=900000000/\p.2<=1000000000000
structure FnOk (w:World) (lo fb:Nat) (f:Fun) (s:GP):Prop where
 low:fb<lo
 at':∃ln vp vb,w.heap[fb]?=some (fnC f.name vp f.ptr vb ln)/\Ec w (Lt lo) vp f.params/\jU w (Lt lo) vb f.body
 name:f.name.length<=4294967296
 names:∀p∈bQ f,p.name.length<=4294967296
 body:ye f.body
 calls:∀t∈cW f.body,(s.funcs t).isSome
 sz:bL f.body<=65536
 pars:f.params.length<=200
 words:s.words.length<=680000000
 bytes:s.bytes<=900000000000
structure GL (w0 w:World) (m mf pl mn:Nat) (s:GP) (f:Fun) (wb:Option Nat) (lo k j:Nat):Prop where
 chg:Chg (λi=>i=m\/i=mf) w0 w
 gm:GM w m (mP mf) (.int .i64 s.bytes) (pB pl) bX ⟨s.words,s.bad,0,[]⟩ wb lo
 plc:oT w pl s.words.length s.bytes mn j 0
 names:∃sz L,bz w mn L sz/\sz<=j/\∀t,(L t).getD (.int .i64 0)=.int .i64 (cU s.bytes ((bQ f).take j) 0 (λ_=>0) t)
 funcs:∃sz L,bz w mf L sz/\sz<=k+1/\∀t wd bs,(dp f s).funcs t=some (wd,bs)->∃p mn' c' k',L t=some (pB p)/\lo<=p/\(if p=pl then wd=s.words.length/\bs=s.bytes else oT w p wd bs mn' c' k')
 new:w0.heap.size<=pl/\w0.heap.size<=mn/\lo<=w0.heap.size/\lo<=mf/\mf<w0.heap.size/\m<w0.heap.size
theorem wS {e:TypeId} (h:w.ownsRow base e size v n xs) {g:Nat} (hg:v.ownBlock=some g) (hb:bz w b L sz):¬g=b:=λe=>by
 obtain⟨a,d,c⟩:=bG h hg;exact jd hb c e.symm
theorem oT.chg {S:Nat->Prop} {w':World} {p wd bs:Nat} (h:oT w p wd bs mn c k) (hc:Chg S w w') (hn:¬S p):oT w' p wd bs mn c k:=by
 unfold oT at h ⊢;rw[hc.block _ (ab h) hn];exact h
theorem GL.start {w1:World} {nv ev wv:Value} (hG:GM w m (mP mf) (.int .i64 s.bytes) nv ev ⟨s.words,s.bad,0,[]⟩ wb lo) (hm:w.heap[m]?=some (.cells #[wv,mP mf,.int .i64 s.bytes,nv,ev,.bool s.bad] 332 (0,0)))
 (hlo:lo<=w.heap.size) (hmf:lo<=mf) (hL:bz w mf L sz) (hsz:sz<=k) (hfs:∀t wd bs,s.funcs t=some (wd,bs)->∃p mn' c' k',L t=some (pB p)/\lo<=p/\oT w p wd bs mn' c' k')
 (hc1:Chg (·=m) w w1) (hm1:w1.heap[m]?=some (.cells #[wv,mP mf,.int .i64 s.bytes,pB (w.heap.size+1),ev,.bool s.bad] 332 (0,0))) (hp1:oT w1 (w.heap.size+1) s.words.length s.bytes w.heap.size 0 0) (hn1:bz w1 w.heap.size (λ_=>none) 0)
 (h2:bz w2 mf (upd L f.name (pB (w.heap.size+1))) (if(L f.name).isSome then sz else sz+1)) (hg:w1.drew.grownBy w2 (some mf)) (hu:Below w2.heap.size (w2.setCell ⟨m,4,none⟩ bX) u):GL w u m mf (w.heap.size+1) w.heap.size s f wb lo k 0:=by
 obtain⟨b,h,c,r⟩:=hG.ex;have E:b=wv:=by
  rw[hm]at h;simp only[aq,Obj.cells.injEq,iF,fN,A9,true_and]at h;exact h.symm
 subst E;obtain⟨y,z,A⟩:=hG.l;have C:=ab hm;have n:=hL.lt;have o:¬mf=m:=jd hL hm;have d:Chg (·=mf) w1 w2:=((Chg.refl _ w1).drew).grown hg λk hk _=>by injection hk with hk;exact hk.symm
 have G:(w2.setCell ⟨m,4,none⟩ bX).heap.size=w2.heap.size:=by simp[World.setCell]
 have g:Chg (·=m) w2 u:=((Chg.refl (·=m) w2).setCell (p:=⟨m,4,none⟩) (λ_=>rfl) bX).on (hu.mono (by omega));have a:Chg (λi=>i=m\/i=mf) w u:=((hc1.mono λi _ e=>.inl e).then (d.mono λi _ e=>.inr e)).then (g.mono λi _ e=>.inl e);have l:Chg (λi=>i=m\/i=mf) w1 u:=(d.mono λi _ e=>.inr e).then (g.mono λi _ e=>.inl e);have B:u.heap[m]?=some (.cells #[b,mP mf,.int .i64 s.bytes,pB (w.heap.size+1),bX,.bool s.bad] 332 (0,0)):=by
  have v:w2.heap[m]?=_:=(d.block m (ab hm1) (λe=>o e.symm)).trans hm1;rw[hu.block m (ab v)];exact aA (j:=4) v bX
 have D:∀q,b.ownBlock=some q->¬(q=m\/q=mf):=λq hq e=>e.elim (hG.ne q (r▸hq)) (wS c hq hL);refine⟨a,⟨⟨b,B,aY c a D,r⟩,hG.rg,hG.tab.chg a (λe=>by rcases e with e|e<;>omega),y,z,A⟩,?_,⟨0,λ_=>none,?_,ag _,λt=>?_⟩,⟨_,_,h2.chg g o,?_,λt wd bs ht=>?_⟩,by omega,ag _,hlo,hmf,n,C⟩
 ·exact hp1.chg l λe=>by omega
 ·exact hn1.chg l λe=>by omega
 ·rw[bO,cU];rfl
 ·split<;>omega
 ·unfold dp at ht
  simp only at ht
  by_cases htn:t=f.name
  ·rw[ax htn]at ht
   simp only[aq,aQ]at ht;exact⟨w.heap.size+1,0,0,0,by unfold upd;rw[ax htn],by omega,by rw[ax rfl];exact⟨ht.1.symm,ht.2.symm⟩⟩
  ·rw[ap htn]at ht
   obtain⟨p,mn',c',k',v,H,x⟩:=hfs t wd bs ht;have F:p<w.heap.size:=ab x;refine⟨p,mn',c',k',by unfold upd;rw[ap htn];exact v,H,?_⟩;rw[ap (by omega)];exact x.chg a λe=>by
    rcases e with e|e
    ·exact eU x hm (by decide) e
    ·exact jd hL x e.symm
theorem GL.next (h:GL w0 w m mf pl mn s f wb lo k j) (hx:(bQ f)[j]?=some x) (hz:Below w.heap.size w z) (hL:bz w mn L sz) (hsz:sz<=j) (hnm:∀t,(L t).getD (.int .i64 0)=.int .i64 (cU s.bytes ((bQ f).take j) 0 (λ_=>0) t))
 (h2:bz w2 mn (upd L x.name (.int .i64 ((s.bytes+16*(1+j):Nat):Int))) (if(L x.name).isSome then sz else sz+1)) (hg:z.grownBy w2 (some mn)):GL w0 (w2.setCell ⟨pl,3,none⟩ (.int .i64 ((j+1:Nat):Int))) m mf pl mn s f wb lo k (j+1):=by
 have d:Chg (·=mn) w w2:=(Chg.of_below hz).grown hg λk hk _=>by injection hk with hk;exact hk.symm
 have a:Chg (λi=>i=mn\/i=pl) w (w2.setCell ⟨pl,3,none⟩ (.int .i64 ((j+1:Nat):Int))):=(d.mono λi _ e=>.inl e).setCell (p:=⟨pl,3,none⟩) (λ_=>.inr rfl) _;obtain⟨F,u,c,C⟩:=h.gm.ex;have b:=h.plc;obtain⟨S,T,U,V,W,X⟩:=h.new;obtain⟨y,A,B⟩:=h.gm.l;obtain⟨E,G,g,o,J⟩:=h.funcs;have l:¬mn=pl:=jd hL b;have O:¬mn=m:=jd hL u;have P:¬pl=m:=eU b u (by decide);have K:¬mf=pl:=jd g b;have Q:w.heap.size<=w2.heap.size:=d.size;have n:∀q,F.ownBlock=some q->¬(q=mn\/q=pl):=λq hq e=>e.elim (wS c hq hL) λe=>by
  obtain⟨I,fr,M⟩:=bG c hq;exact eU M b (by decide) e
 have v:Chg (·=pl) w2 (w2.setCell ⟨pl,3,none⟩ (.int .i64 ((j+1:Nat):Int))):=(Chg.refl (·=pl) w2).setCell (p:=⟨pl,3,none⟩) (λ_=>rfl) _;refine⟨h.chg.trans a λi hi e=>by rcases e with e|e<;>omega,⟨⟨F,by rw[a.block _ (ab u) (by omega)];exact u,aY c a n,C⟩,h.gm.rg,h.gm.tab.chg a (λe=>by rcases e with e|e<;>omega),y,A,B⟩,?_,⟨_,_,h2.chg v l,?_,λt=>?_⟩,⟨E,G,g.chg a (by omega),o,λt wd bs ht=>?_⟩,S,T,U,V,W,X⟩
 ·exact aA (j:=3) ((d.block _ (ab b) (λe=>l e.symm)).trans b) _
 ·split<;>omega
 ·rw[bT,hx,cy,mG]
  obtain⟨N,_⟩:=aE.1 hx;unfold upd
  by_cases ht:t=x.name
  ·rw[ax ht,ax ht,Option.getD_some,bN,cA,Nat.min_eq_left (by omega)]
  ·rw[ap ht,ap ht];exact hnm t
 ·obtain⟨p,D,H,R,Y,Z,r⟩:=J t wd bs ht
  refine⟨p,D,H,R,Y,Z,?_⟩
  by_cases hp:p=pl
  ·rw[ax hp]at r ⊢;exact r
  ·rw[ap hp]at r ⊢
   exact r.chg a λe=>e.elim (λe=>jd hL r e.symm) hp
theorem GL.below (h:GL w0 w m mf pl mn s f wb lo k j) (hz:Below w.heap.size w z):GL w0 z m mf pl mn s f wb lo k j:=by
 obtain⟨sz,L,e,g,i⟩:=h.names;obtain⟨x,d,l,n,o⟩:=h.funcs;have c:Chg (λ_=>False) w z:=Chg.of_below hz;refine⟨h.chg.on hz,h.gm.below hz,h.plc.chg c id,⟨sz,L,e.below hz,g,i⟩,⟨x,d,l.below hz,n,λt wd bs ht=>?_⟩,h.new⟩;obtain⟨p,b,q,r,u,v,a⟩:=o t wd bs ht;refine⟨p,b,q,r,u,v,?_⟩
 by_cases hp:p=pl
 ·rw[ax hp]at a ⊢;exact a
 ·rw[ap hp]at a ⊢;exact a.chg c id
theorem GQ.below (h:GQ w m mf s wb lo k) (hz:Below w.heap.size w z):GQ z m mf s wb lo k:=by
 obtain⟨l,g,i⟩:=h.gm;obtain⟨r,b,c,d,e⟩:=h.funcs;refine⟨⟨l,g,i.below hz⟩,⟨r,b,c.below hz,d,λt wd bs ht=>?_⟩,h.l,h.bd⟩;obtain⟨p,a,f,j,n,o,q⟩:=e t wd bs ht;exact⟨p,a,f,j,n,o,q.chg (Chg.of_below (S:=λ_=>False) hz) id⟩
theorem GL.done (h:GL w0 w m mf pl mn s f wb lo k (bQ f).length) (hs:(bQ f).length<=70000) (hb:s.bytes<=900000000000) (hw:s.words.length<=680000000) (hfb:∀t p,s.funcs t=some p->p.1<=900000000/\p.2<=1000000000000):
  GI ⟨m,pl,mf,mn,s.bytes,s.words.length,dp f s,lo⟩ w ⟨s.words,s.bad,0,[]⟩ wb none:=by
 obtain⟨n,o,r,g,u,v⟩:=h.new;obtain⟨sz,L,b,j,c⟩:=h.names;obtain⟨i,a,d,l,e⟩:=h.funcs;refine⟨⟨bX,[],h.gm,bq _ _ _ _,rfl,trivial⟩,h.plc,⟨sz,L,b,λt=>?_⟩,⟨i,a,d,e⟩,⟨by show lo<=pl;omega,by show lo<=mn;omega,g,λq hq=>by cases hq⟩,?_,?_,aV _,λt=>?_,λt p hp=>?_⟩
 ·have:=c t;rw[cg]at this;exact this
 ·show s.bytes<=_;omega
 ·show(bQ f).length<=_;omega
 ·have:=o5 s.bytes (bQ f) 0 (λ_=>0) t
  show cU s.bytes (bQ f) 0 (λ_=>0) t<=_;omega
 ·unfold dp at hp
  simp only at hp
  by_cases ht:t=f.name
  ·rw[ax ht]at hp
   simp only[aq]at hp;subst hp;exact⟨by show s.words.length<=_;omega,by show s.bytes<=_;omega⟩
  ·rw[ap ht]at hp;exact hfb t p hp
variable {K:GC}
theorem GR.cells {eb:Option Nat} (h:GR K g wb eb w u):(u.cell? ⟨K.m,2,none⟩=some (.int .i64 K.bt)/\u.cell? ⟨K.m,3,none⟩=some (pB K.pl)/\u.frozen? ⟨K.m,2,none⟩=false)/\u.cell? ⟨K.pl,1,none⟩=some (.int .i64 K.E.base)/\u.cell? ⟨K.pl,3,none⟩=some (.int .i64 K.E.count)/\u.cell? ⟨K.pl,4,none⟩=some (.int .i64 g.kept)/\g.kept<=2000000:=by
 obtain⟨_,f,d,b,_⟩:=h;obtain⟨j,i,e,_⟩:=b.ex;obtain⟨k,c,_⟩:=e.ex;have a:=b.pl;unfold oT at a;exact⟨⟨(ae c 2).trans rfl,(ae c 3).trans rfl,aD u K.m 2 _ _ c⟩,(ae a 1).trans rfl,(ae a 3).trans rfl,(ae a 4).trans rfl,b.bd.2.2.1⟩
theorem GR.close {g0:GS} (hGL:GL w0 w m mf pl mn s f wb lo k (bQ f).length) (hi0:GI ⟨m,pl,mf,mn,s.bytes,s.words.length,dp f s,lo⟩ w g0 wb none) (h:GR ⟨m,pl,mf,mn,s.bytes,s.words.length,dp f s,lo⟩ g wb none w u) (hfn:dj f s=⟨g.words,g.bad,s.bytes+16*(1+(bQ f).length+g.kept),(dp f s).funcs⟩)
 (hbd:∀t p,s.funcs t=some p->p.1<=900000000/\p.2<=1000000000000) (hw:s.words.length<=680000000) (hb:s.bytes<=900000000000):
  Chg (λi=>i=m\/i=mf\/wb=some i) w0 (u.setCell ⟨m,2,none⟩ (.int .i64 ((s.bytes+16*(1+(bQ f).length+g.kept):Nat):Int)))/\∃wb',GQ (u.setCell ⟨m,2,none⟩ (.int .i64 ((s.bytes+16*(1+(bQ f).length+g.kept):Nat):Int))) m mf (dj f s) wb' lo (k+1)/\(wb'=wb\/∀q,wb'=some q->w0.heap.size<=q):=by
 obtain⟨c1,wb',U,D,z,h4⟩:=h;obtain⟨n1,n2,n3,Z,n5,n6⟩:=hGL.new;obtain⟨Q,L,M,R,S⟩:=hGL.funcs;obtain⟨V,es,c,N,W,_⟩:=D.ex;obtain⟨wv,X,J,v⟩:=c.ex;obtain⟨l,n,E⟩:=c.l;have G:=D.pl;have H:¬pl=m:=D.ne.2.2.1;obtain⟨x,F⟩:∃x,s.bytes+16*(1+(bQ f).length+g.kept)=x:=⟨_,rfl⟩;rw[F]at hfn ⊢;have I:=hGL.chg.size;have a:Chg (·=m) u (u.setCell ⟨m,2,none⟩ (.int .i64 x)):=(Chg.refl (·=m) u).setCell (p:=⟨m,2,none⟩) (λ_=>rfl) _;have b:¬GT ⟨m,pl,mf,mn,s.bytes,s.words.length,dp f s,lo⟩ wb none mf:=hi0.ne.2.1 mf Q L M;have o:¬mf=m:=λe=>b (.inl e);have C:(⟨(dj f s).words,(dj f s).bad,0,[]⟩:GS)=⟨g.words,g.bad,0,[]⟩:=by rw[hfn]
 have B:(dj f s).bytes=x:=by rw[hfn]
 have d:(dj f s).funcs=(dp f s).funcs:=by rw[hfn]
 have A:Chg (λi=>i=m\/i=mf\/wb=some i) w0 (u.setCell ⟨m,2,none⟩ (.int .i64 x)):=by
  refine((hGL.chg.mono (S':=λi=>i=m\/i=mf\/wb=some i) λi _ e=>e.elim .inl λe=>.inr (.inl e)).trans c1 λi hil e=>?_).then (a.mono λi _ e=>.inl e);rcases e with e|e|e|e
  ·exact .inl e
  ·have:i=pl:=e;omega
  ·exact .inr (.inr e)
  ·cases e
 refine⟨A,wb',⟨⟨pB pl,V,?_⟩,⟨Q,L,(M.chg c1 b).chg a o,R,λt wd bs ht=>?_⟩,Z,λt p hp=>?_⟩,z.imp id λz q hq=>ay I (z q hq)⟩
 ·rw[C,B]
  refine⟨⟨wv,aA (j:=2) X _,aY J a λq hq=>c.ne q (v▸hq),v⟩,c.rg,c.tab.chg a (by show¬1=m;have:lo<=m:=n;have:1<lo:=l;omega),l,n,E⟩
 ·rw[d]at ht
  obtain⟨p,K,T,Y,O,P,y⟩:=S t wd bs ht
  by_cases hp:p=pl
  ·rw[ax hp]at y
   obtain⟨rfl,rfl⟩:=y;subst hp;exact⟨p,mn,_,_,O,P,G.chg a H⟩
  ·rw[ap hp]at y
   have r:=hi0.ne.2.2.2.2.2.2 p _ _ y hp;exact⟨p,K,T,Y,O,P,(y.chg c1 r).chg a λe=>r (.inl e)⟩
 ·rw[d]at hp
  unfold dp at hp;simp only at hp
  by_cases ht:t=f.name
  ·rw[ax ht]at hp
   simp only[aq]at hp;subst hp;exact⟨by show s.words.length<=_;omega,by show s.bytes<=_;omega⟩
  ·rw[ap ht]at hp;exact hbd t p hp
theorem Du {w:World} {lo m:Nat}:∀{vs:List Value} {ps:List Nat} {j a:Nat},ky w lo m vs ps->ps[j]?=some a->∃v,vs[j]?=some v/\JAt w v m a 6 lo
 | [],[],j,a,_,h=>by simp at h
 | v::vs,b::ps,0,a,h,hj=>by simp at hj;subst hj;exact⟨v,rfl,h.1⟩
 | v::vs,b::ps,j+1,a,h,hj=>by
  obtain⟨x,c,d⟩:=Du h.2 (by simpa using hj);exact⟨x,by simpa using c,d⟩
 | [],_::_,_,_,h,_=>h.elim
 | _::_,[],_,_,h,_=>h.elim
theorem qB {e:Nat} (h:w.ownsRow base e 1 (.slice xa n c) n xs) (hj:j<n):∃g,xa=some ⟨g,0,none⟩/\w.cell? ⟨g,j,none⟩=xs[j]?:=by
 rcases h.2 with⟨_,f⟩|⟨g,a,b,d,_⟩
 ·omega
 ·injection d with h1 h2 h3
  subst h1 h3;exact⟨g,rfl,h.cellAt j (by omega)⟩
theorem qA:∀{ps:List Par} {j:Nat} {x:Par},ps[j]?=some x->(bE ps)[j*2]?=some (.string ⟨x.name.toArray⟩)/\(bE ps)[j*2+1]?=some (.bool x.ptr)
 | [],j,x,h=>by simp at h
 | y::ps,0,x,h=>by simp at h;subst h;exact⟨rfl,rfl⟩
 | y::ps,j+1,x,h=>by
  have a:=qA (ps:=ps) (j:=j) (by simpa using h);have e:bE (y::ps)=.string ⟨y.name.toArray⟩::.bool y.ptr::bE ps:=by simp[bE]
  rw[e,show(j+1)*2=j*2+1+1 by omega];exact a
theorem Ku {ps:List Par} (h:w.ownsRow base 140 2 (.slice xa n c) n (bE ps)) (hn:n=ps.length) (hx:ps[j]?=some x):∃g,xa=some ⟨g,0,none⟩/\w.cell? ⟨g,j*2,none⟩=some (.string ⟨x.name.toArray⟩)/\w.cell? ⟨g,j*2+1,none⟩=some (.bool x.ptr):=by
 obtain⟨k,_⟩:=aE.1 hx;rcases h.2 with⟨_,i⟩|⟨g,a,b,d,_⟩
 ·omega
 ·injection d with h1 h2 h3
  subst h1 h3;obtain⟨e,f⟩:=qA hx;exact⟨g,rfl,(h.cellAt (j*2) (by omega)).trans e,(h.cellAt (j*2+1) (by omega)).trans f⟩
variable {K:GC}
theorem vh (w:World) (m mf fb:Nat) (s:GP) (wb:Option Nat) (lo k:Nat) (f:Fun) (hq:GQ w m mf s wb lo k) (hkk:k<=1000) (ho:FnOk w lo fb f s):
  Calls prog 230 #[pB m,pB fb] w λe w'=>e=.returned (.tuple #[])/\Chg (λi=>i=m\/i=mf\/wb=some i) w w'/\(dj f s).bytes<=s.bytes+48000016/\∃wb',GQ w' m mf (dj f s) wb' lo (k+1)/\(wb'=wb\/∀q,wb'=some q->w.heap.size<=q):=by
 obtain⟨nv,ev,hG⟩:=hq.gm;obtain⟨wv,hm,G,cb⟩:=hG.ex;obtain⟨va,vn,vc,rfl⟩:=bD G;have c9:vn=s.words.length:=gS G rfl;subst c9;have d0:w.cell? ⟨m,0,none⟩=some (.slice va s.words.length vc):=(ae hm 0).trans rfl;have d2:w.cell? ⟨m,2,none⟩=some (.int .i64 s.bytes):=(ae hm 2).trans rfl;have d3:w.cell? ⟨m,3,none⟩=some nv:=(ae hm 3).trans rfl;have f3:=aD w m 3 _ _ hm;have lm:=aH d0;have HQ:=aa hq;have K:=aa ho;have HG:=aa hG;have HM:=aa hm;have ck:=aa G;have hw:=ho.words;have hb:=ho.bytes;clear hq ho hG hm G cb
 go_enter func230,ntmps230
 go_wp2_with fail;have c6:=@run_makeMap prog
 go_region
 have Q:Chg (·=m) w (((w.setCell ⟨m,3,none⟩ (pB (w.heap.size+1))).alloc (.map #[] 0)).alloc (.cells #[.int .i64 s.words.length,.int .i64 s.bytes,mP w.heap.size,.int .i64 0,.int .i64 0] 336)).drew:=((((Chg.refl (·=m) w).setCell (p:=⟨m,3,none⟩) (λ_=>rfl) _).alloc _).alloc _).drew;have c8:(w.setCell ⟨m,3,none⟩ (pB (w.heap.size+1))).heap.size=w.heap.size:=by simp[World.setCell]
 have B:(((w.setCell ⟨m,3,none⟩ (pB (w.heap.size+1))).alloc (.map #[] 0)).alloc (.cells #[.int .i64 s.words.length,.int .i64 s.bytes,mP w.heap.size,.int .i64 0,.int .i64 0] 336)).drew.heap[m]?=some (.cells #[.slice va s.words.length vc,mP mf,.int .i64 s.bytes,pB (w.heap.size+1),ev,.bool s.bad] 332 (0,0)):=by
  refine(dF _ _ (by rw[ah];omega)).trans ((dF _ _ (by omega)).trans (aA (j:=3) HM.out _))
 have aF:oT (((w.setCell ⟨m,3,none⟩ (pB (w.heap.size+1))).alloc (.map #[] 0)).alloc (.cells #[.int .i64 s.words.length,.int .i64 s.bytes,mP w.heap.size,.int .i64 0,.int .i64 0] 336)).drew (w.heap.size+1) s.words.length s.bytes w.heap.size 0 0:=sU (by rw[ah];omega);have aE:bz (((w.setCell ⟨m,3,none⟩ (pB (w.heap.size+1))).alloc (.map #[] 0)).alloc (.cells #[.int .i64 s.words.length,.int .i64 s.bytes,mP w.heap.size,.int .i64 0,.int .i64 0] 336)).drew w.heap.size (λ_=>none) 0:=by
  have h0:=bz.made (w.setCell ⟨m,3,none⟩ (pB (w.heap.size+1)));rw[c8]at h0;exact(h0.below (az)).below (ai _ _).drew
 generalize(((w.setCell ⟨m,3,none⟩ (pB (w.heap.size+1))).alloc (.map #[] 0)).alloc (.cells #[.int .i64 s.words.length,.int .i64 s.bytes,mP w.heap.size,.int .i64 0,.int .i64 0] 336)).drew=w1 at Q B aF aE ⊢;obtain⟨ln,vp,vb,h,W,E⟩:=K.at';obtain⟨cf,Lf,a0,bw,bj⟩:=HQ.funcs;have a5:fb<w.heap.size:=ab h;have l:=K.low;have co:=HG.l;have ay:lo<=w.heap.size:=by omega
 have bq:=HQ.l;have P:bz w1 mf Lf cf:=a0.chg Q (jd a0 HM.out);obtain⟨w2,ak,C,v⟩:=(P.below (ai _ _).drew).put (t:=328) (e:=329) underlying328 (by unfold maxLen;omega) K.name (pB (w.heap.size+1));have e1:w1.cell? ⟨m,1,none⟩=some (mP mf):=(ae B 1).trans rfl;have e3:w1.cell? ⟨m,3,none⟩=some (pB (w.heap.size+1)):=(ae B 3).trans rfl;have g0:w1.cell? ⟨fb,0,none⟩=some (.string ⟨f.name.toArray⟩):=(aI (w:=w) (Q.block fb a5 (by omega))).trans ((ae h 0).trans rfl);have aB:w2.heap[m]?=_:=(v.block m (by have:=ab B;exact this) (λe=>jd P B (by injection e with e;exact e.symm))).trans B;have f4:w2.frozen? ⟨m,4,none⟩=false:=aD w2 m 4 _ _ aB;have e4:w2.cell? ⟨m,4,none⟩=some ev:=(ae aB 4).trans rfl;obtain⟨X,aK⟩:∃X,w2.setCell ⟨m,4,none⟩ bX=X:=⟨_,rfl⟩;have O:GL w X m mf (w.heap.size+1) w.heap.size s f wb lo k 0:=GL.start HG.out HM.out ay bq a0 bw bj Q B aF aE C v (by rw[aK];exact ai _ _);have a1:Chg (λi=>i=m\/i=mf) w X:=O.chg;have aj:X.heap[fb]?=some (fnC f.name vp f.ptr vb ln):=(a1.block fb a5 (by omega)).trans h;have a8:aX (Lt lo) w X:=a1.sameOn λk hk e=>by have:k<lo:=hk;omega
 have cz:=BP f;have b4:=aa (BQ X fb lo f vp vb ln aj (W.on a8) (by obtain⟨bs,q1,q2⟩:=E;exact⟨bs,q1.on a8,q2.onA a8⟩) (by have:=a1.size;omega) l (by have:=K.sz;have:=K.pars;omega));have J:=aa O;have aW:=aa h;have bB:=aa E;have b6:=aa aK;clear Q B aF aE a0 bj P C v O a1 aj a8 aB h W E c6 d0 d2 d3 f3 aK;go_wp2_with fail
 go_still_tail 12,(by kernel_rfl)
 change wpList _ _ _ _ _ w1.drew;go_wp2_with fail;rw[show w2.setCell ⟨m,4,none⟩ (.slice none 0 0)=X from b6.out];refine b4.mono ?_;rintro e u ⟨v1,rfl,y,bf⟩;have aT:=aa (J.below bf);obtain⟨xa,xn,xc,rfl⟩:=bD y;have cc:xn=(bQ f).length:=gS y rfl;subst cc;have cp:w.heap.size<=X.heap.size:=J.chg.size;have aZ:=aa y;have bU:=aa K.names;have al:(bQ f).length<=70000:=by have:=K.sz;have:=K.pars;omega
 clear ak e1 e3 g0 f4 e4 bf y b4 J b6;go_wp2_with fail
 go_loopw [4,5,41] (λ_ _ s41 wr=>∃j:Nat,s41=.int .i64 j/\j<=(bQ f).length/\Hid (GL w wr m mf (w.heap.size+1) w.heap.size s f wb lo k j/\wr.ownsRow X.heap.size 140 2 (.slice xa (bQ f).length xc) (bQ f).length (bE (bQ f)))) (λ_ _ s41 _=>match s41 with | .int _ j=>(bQ f).length-j.toNat|_=>0)
 case atStart=>exact⟨0,rfl,aV _,aa ⟨aT.out,aZ.out⟩⟩
 case round =>
  clear aT aZ
  rename World=>w5
  obtain⟨j,rfl,hj,I⟩:=hrel
  by_cases hlt:j<(bQ f).length
  ·have bh:decide ((j:Int)<((bQ f).length:Int))=true:=by simp;omega
   have bt:(bQ f).length-((j:Int)+1).toNat<(bQ f).length-(j:Int).toNat:=ee hlt;obtain⟨x,hx⟩:∃x,(bQ f)[j]?=some x:=⟨_,aw hlt⟩;obtain⟨xg,rfl,k0,k1⟩:=Ku I.out.2 rfl hx;have HX:=aa hx;have aS:=aa I.out.1;have b0:=aa I.out.2;clear I hx;have bY:=aa (show w5.heap[w5.heap.size]?=none from by simp);go_wp2_with fail;have H:=aa (aS.below ((ai _ _).alloc (ag _) (.cells #[.string ⟨x.name.toArray⟩,.bool x.ptr] 140)));have N:=aa (b0.alloc (.cells #[.string ⟨x.name.toArray⟩,.bool x.ptr] 140));have x0:(w5.alloc (.cells #[.string ⟨x.name.toArray⟩,.bool x.ptr] 140)).cell? ⟨w5.heap.size,0,none⟩=some (.string ⟨x.name.toArray⟩):=(ae (sU (o:=.cells #[.string ⟨x.name.toArray⟩,.bool x.ptr] 140) rfl) 0).trans rfl;generalize w5.alloc (.cells #[.string ⟨x.name.toArray⟩,.bool x.ptr] 140)=z at H N x0 ⊢;clear aS b0 bY k0 k1;obtain⟨sz,L,hL,bv,bu⟩:=H.names;obtain⟨cE,V,_⟩:=H.gm.ex;have d:=H.plc;unfold oT at d;have p3:z.cell? ⟨m,3,none⟩=some (pB (w.heap.size+1)):=(ae V 3).trans rfl;have p2:z.cell? ⟨w.heap.size+1,2,none⟩=some (mP w.heap.size):=(ae d 2).trans rfl;have p1:z.cell? ⟨w.heap.size+1,1,none⟩=some (.int .i64 s.bytes):=(ae d 1).trans rfl;obtain⟨w6,ak,C,v⟩:=(hL.below (ai _ _).drew).put (t:=110) (e:=3) underlying110 (by unfold maxLen;omega) (bU.out x (aJ HX.out)) (.int .i64 ((s.bytes:Int)+16*(1+(j:Int))));have bp:w6.heap[m]?=_:=(v.block m (ab V) (λe=>jd hL V (by injection e with e;exact e.symm))).trans V;have aG:w6.heap[w.heap.size+1]?=_:=(v.block _ (ab d) (λe=>jd hL d (by injection e with e;exact e.symm))).trans d;have r3:w6.cell? ⟨m,3,none⟩=some (pB (w.heap.size+1)):=(ae bp 3).trans rfl;have s3:w6.cell? ⟨w.heap.size+1,3,none⟩=some (.int .i64 j):=(ae aG 3).trans rfl;have ct:=aD w6 (w.heap.size+1) 3 _ _ aG;have cv:=hb;have bc:GL w (w6.setCell ⟨w.heap.size+1,3,none⟩ (.int .i64 ((j:Int)+1))) m mf (w.heap.size+1) w.heap.size s f wb lo k (j+1):=
    H.next HX.out (z:=z.drew) (ai _ _).drew hL bv bu (by rw[show(((s.bytes+16*(1+j):Nat)):Int)=(s.bytes:Int)+16*(1+(j:Int)) by omega];exact C) v
   have bd:(w6.setCell ⟨w.heap.size+1,3,none⟩ (.int .i64 ((j:Int)+1))).ownsRow X.heap.size 140 2 (.slice (some ⟨xg,0,none⟩) (bQ f).length xc) (bQ f).length (bE (bQ f)):=by
    have c2:Chg (λi=>i=w.heap.size\/i=w.heap.size+1) z (w6.setCell ⟨w.heap.size+1,3,none⟩ (.int .i64 ((j:Int)+1))):=(((Chg.refl (λi=>i=w.heap.size\/i=w.heap.size+1) z).drew).grown v λk hk _=>.inl (by injection hk with hk;exact hk.symm)).setCell (p:=⟨w.heap.size+1,3,none⟩) (λ_=>.inr rfl) _;exact aY N.out c2 λq hq e=>e.elim (wS N.out hq hL) λe=>by
     obtain⟨cq,fr,hh⟩:=bG N.out hq;exact eU hh d (by decide) e
   have M:=aa (And.intro bc bd);clear hL bu V d C v bp aG bc bd H N
   go_still_tail 20,(by kernel_rfl)
   change wpList _ _ _ _ _ z.drew;go_wp2_with fail;exact⟨⟨j+1,by simp,hlt,M⟩,bt⟩
  ·have T:j=(bQ f).length:=by omega
   have bh:decide ((j:Int)<((bQ f).length:Int))=false:=by simp;omega
   have ac:=aa (show GL w w5 m mf (w.heap.size+1) w.heap.size s f wb lo k (bQ f).length by rw[<- T];exact I.out.1);have HI:=aa (ac.done al hb hw HQ.bd);have bF:=aa I.out.1.chg;clear I T;have am:=aa (GR.start HI.out);obtain⟨⟨_,c3,_⟩,c1,_⟩:=am.cells;have aM:=aa (am.store (r:=5) (a:=s.bytes) (by show s.words.length<=_;omega) (by omega));have D:aX (Lt lo) w w5:=bF.sameOn λk hk e=>by have:k<lo:=hk;omega
   have bV:=aa (show jU w5 (Lt lo) vb f.body by obtain⟨bs,q1,q2⟩:=bB.out;exact⟨bs,q1.on D,q2.onA D⟩);have bN:=aa (show FAt w5 fb f.ptr from⟨_,_,_,_,D fb _ l aW.out⟩);have aU:=aa (D fb _ l aW.out);have a5:=GJ f s;obtain⟨l1,l2,l3,l4⟩:=a5;have L3:=aa l3;have bv:=K.sz;have bI:=aa (show∀t∈cW f.body,((dp f s).funcs t).isSome fromλt ht=>by
    unfold dp;simp only;split
    ·rfl
    ·exact K.calls t ht)
   have cu:(fF 5 s.bytes ⟨s.words,s.bad,0,[]⟩).words.length<=s.words.length+4:=(jg 24 5 s.bytes ⟨s.words,s.bad,0,[]⟩).2.2;have b9:(fF 5 s.bytes ⟨s.words,s.bad,0,[]⟩).ends=[]:=(jg 24 5 s.bytes ⟨s.words,s.bad,0,[]⟩).2.1;have bA:=aa (show(fF 5 s.bytes ⟨s.words,s.bad,0,[]⟩).ends.length+bL f.body<=1000000 by rw[b9];simp;omega);clear D l3 b9;go_wp2_with fail;refine aM.mono ?_;rintro e u1 ⟨rfl,h1,_⟩;have aN:=aa (h1.block HI.out (Jh f.ptr f.body) bV.out l bN.out (by omega) (by show _<=_;omega) bA.out bI.out K.body);have b3:u1.cell? ⟨fb,3,none⟩=some vb:=(ae (h1.tree HI.out fb _ l aU.out) 3).trans rfl;clear h1 aM am c3 c1;go_wp2_with fail;refine aN.mono ?_;rintro e u2 ⟨rfl,h2,_⟩;have ba:GR ⟨m,w.heap.size+1,mf,w.heap.size,s.bytes,s.words.length,dp f s,lo⟩ (tX f s) wb none w5 u2:=h2;have b2:u2.cell? ⟨fb,2,none⟩=some (.bool f.ptr):=(ae (h2.tree HI.out fb _ l aU.out) 2).trans rfl;have aO:=aa (ba.ansN (p:=f.ptr) (by omega));clear h2 ba aN b3;go_wp2_with fail;refine aO.mono ?_;rintro e u3 ⟨rfl,h3,_⟩;obtain⟨b,a6⟩:∃b,cS (dp f s) f.ptr none (tX f s)=b:=⟨_,rfl⟩;have a4:=tJ (dp f s) f.ptr none (tX f s);rw[a6,oSz]at a4;have bb:GR ⟨m,w.heap.size+1,mf,w.heap.size,s.bytes,s.words.length,dp f s,lo⟩ b wb none w5 u3:=a6▸h3;have bO:=aa a6;have ax:=a4.1;have ca:=a4.2;have bi:∀a∈b.ends,a<=700000000:=λa ha=>by have:=L3.out a (ax▸ha);omega
   have cm:b.ends.length<=100000:=by rw[ax];omega
   have bJ:=aa bi;have H3:=aa bb;obtain⟨b7,ch,cr,av,f1,f2⟩:=bb;have an:=aa (And.intro b7 (And.intro f1 f2));obtain⟨cs,bZ,ap,A,ad,af⟩:=av.ex;obtain⟨cD,aC,_⟩:=ap.ex;obtain⟨ea,en,ec,rfl⟩:=bD A;have c4:en=b.ends.length:=gS A rfl;subst c4;have d4:u3.cell? ⟨m,4,none⟩=some (.slice ea b.ends.length ec):=(ae aC 4).trans rfl;have ao:=aa av;have bR:=aa A;have bS:=aa af;have bK:=aa ad;have b5:=aa (ep.start ap);have bx:b.words.length<=690000000:=by omega
   have bP:=aa aC;clear h3 a6 a4 bi av ap A af ad aC aO b2 f1 f2 b7 ax ca;go_wp2_with fail
   go_loopw [7,104] (λ_ s104 wr=>∃j:Nat,s104=.int .i64 j/\j<=b.ends.length/\Hid (ep m (mP mf) (.int .i64 s.bytes) (pB (w.heap.size+1)) (.slice ea b.ends.length ec) ((b.ends.take j).foldl (λg a=>fG a 6 g) b) ch lo u3 wr)) (λ_ s104 _=>match s104 with | .int _ j=>b.ends.length-j.toNat|_=>0)
   case atStart=>exact⟨0,rfl,aV _,b5⟩
   case round =>
    clear b5
    rename World=>w7
    obtain⟨i,rfl,cw,I⟩:=hrel;obtain⟨R,ci,ar,aL⟩:=I.out
    by_cases hlt7:i<b.ends.length
    ·have au:decide ((i:Int)<(b.ends.length:Int))=true:=by simp;omega
     have br:b.ends.length-((i:Int)+1).toNat<b.ends.length-(i:Int).toNat:=ee hlt7;obtain⟨a,ha⟩:∃a,b.ends[i]?=some a:=⟨_,aw hlt7⟩;obtain⟨jv,bl,hJ⟩:=Du bS.out ha;have bo:gF u3 w7:=ao.keeps (R.mono λi _ e=>e.elim .inl λe=>.inr (.inr (.inl e)));have be:w7.ownsRow 0 1 1 (.slice ea b.ends.length ec) b.ends.length bZ:=aY bR.out R λq hq e=>by
      have:=ao.ne.2.2.2.2.1 q (bK.symm.trans hq);exact e.elim this.1 this.2.2
     obtain⟨eg,rfl,S⟩:=qB be hlt7;have c0:=bJ.out a (aJ ha);have c5:=(pR (b.ends.take i) b).1;obtain⟨b1,b2,b3,rfl,bg⟩:=zo w7 m _ _ _ _ _ ci lo ar (by omega) jv a 6 lo (hJ.keeps bo) (by omega);rw[bl]at S;have a9:=aa bg;have bH:=aa R;have bW:=aa aL;have bM:=aa (show fG a 6 ((b.ends.take i).foldl (λg a=>fG a 6 g) b)=(b.ends.take (i+1)).foldl (λg a=>fG a 6 g) b by rw[bT,ha,cy,List.foldl_append];rfl);clear I R ar aL ha bl hJ bo be c0 c5 bg;go_wp2_with fail;refine a9.mono ?_;intro e u8 h8;obtain⟨rfl,h9⟩:=ep.comp bH.out bW.out h8;rw[bM.out]at h9;have M:=aa h9;clear h8 h9 a9 S;go_wp2_with fail;exact⟨⟨i+1,by simp,hlt7,M⟩,br⟩
    ·have T:i=b.ends.length:=by omega
     have au:decide ((i:Int)<(b.ends.length:Int))=false:=by simp;omega
     obtain⟨Y,a7⟩:∃Y,b.ends.foldl (λg a=>fG a 6 g) b=Y:=⟨_,rfl⟩;have U:=pR b.ends b;rw[a7]at U;have h4:GR ⟨m,w.heap.size+1,mf,w.heap.size,s.bytes,s.words.length,dp f s,lo⟩ Y wb none w5 w7:=by
      refine GR.glue an.out.1 an.out.2.1 an.out.2.2 (ao.of_words U.2.1 U.2.2 λev2 hg2=>?_);have e2:ev2=.slice ea b.ends.length ec:=by
       obtain⟨cC,a2,_⟩:=hg2.ex;have a3:=bP.out;rw[a3]at a2;simp only[aq,Obj.cells.injEq,iF,fN,A9,true_and]at a2;exact a2.2.symm
      subst e2;have:=I.out;rw[T,cg,a7]at this;exact this
     have aR:=aa (show dj f s=⟨(cL [⟨30,6,5,0,0⟩] (mq 5 s.bytes Y)).words,(cL [⟨30,6,5,0,0⟩] (mq 5 s.bytes Y)).bad,s.bytes+16*(1+(bQ f).length+(cL [⟨30,6,5,0,0⟩] (mq 5 s.bytes Y)).kept),(dp f s).funcs⟩ by
      rw[<- a7,<- bO.out];rfl)
     obtain⟨⟨_,m3,_⟩,p1,_⟩:=h4.cells;have cn:Y.words.length<=690000000:=by rw[U.1];exact bx
     have cx:=(jg 23 5 s.bytes Y).2.2;have aP:=aa (h4.load (r:=5) (a:=s.bytes) (by omega) (by omega));clear I R ar aL h4 a7 U T;go_wp2_with fail;refine aP.mono ?_;rintro e u8 ⟨rfl,h8,_⟩;have H8:=aa h8;clear h8 aP m3 p1;go_wp2_with fail;refine(iB u8 30 6 5 0).mono ?_;rintro e z ⟨rfl,hz⟩;have aQ:=aa ((H8.below hz).emit (c:=1) (n:=1) (eG z 30 6 5 0 0) rfl (by omega) (by unfold mq;omega));clear hz;go_wp2_with fail;refine aQ.mono ?_;rintro e u9 ⟨rfl,h9,_⟩;obtain⟨⟨m2,m3,b8⟩,_,p3,p4,bm⟩:=h9.cells;obtain⟨g6,bk⟩:∃g6,cL [⟨30,6,5,0,0⟩] (mq 5 s.bytes Y)=g6:=⟨_,rfl⟩;have Z:=aR.out;rw[bk]at h9 p4 bm Z;have cA:u9.cell? ⟨m,2,none⟩=some (.int .i64 s.bytes):=m2;have cB:u9.cell? ⟨m,3,none⟩=some (pB (w.heap.size+1)):=m3;have cl:u9.frozen? ⟨m,2,none⟩=false:=b8;have cd:u9.cell? ⟨w.heap.size+1,3,none⟩=some (.int .i64 (bQ f).length):=p3;have ce:u9.cell? ⟨w.heap.size+1,4,none⟩=some (.int .i64 g6.kept):=p4;have bC:=aa (show(dj f s).bytes<=s.bytes+48000016 by rw[Z];show s.bytes+16*(1+(bQ f).length+g6.kept)<=_;omega);have F:=aa (GR.close ac.out HI.out h9 Z HQ.bd hw hb);rw[show(((s.bytes+16*(1+(bQ f).length+g6.kept):Nat)):Int)=(s.bytes:Int)+16*(1+((bQ f).length:Int)+(g6.kept:Int)) by omega]at F;clear h9 bk Z aQ aR m2 m3 b8 p3 p4;obtain⟨sn,c7⟩:∃sn,(bQ f).length=sn:=⟨_,rfl⟩;obtain⟨kn,bn⟩:∃kn,g6.kept=kn:=⟨_,rfl⟩;rw[c7]at cd F al;rw[bn]at ce F bm;clear bn;go_wp2_with fail
     go_still_tail 24,(by kernel_rfl)
     change wpList _ _ _ _ _ u9.drew;go_wp2_with fail;go_end0;obtain⟨q1,cj,q2,q3⟩:=F.out;exact⟨rfl,q1.drew,bC.out,cj,q2.below (ai _ _).drew,q3⟩
def BB (fs:List Fun) (s:GP) (k:Nat):GP:=match fs[k]? with|some f=>dj f s|none=>s
def mC (fs:List Fun) (l:List Nat):GP:=l.foldl (BB fs) ⟨(dt 0 (fg 5 ⟨[],false,0,[]⟩)).words,(dt 0 (fg 5 ⟨[],false,0,[]⟩)).bad,0,λ_=>none⟩
theorem BY (fs:List Fun) (l:List Nat) (h:l[j]?=some k):mC fs (l.take (j+1))=BB fs (mC fs (l.take j)) k:=by
 unfold mC;rw[bT,h,cy,List.foldl_append];rfl
theorem Fe (h:l[j]?=some k) (hf:fs[k]?=some f):plN fs (l.take (j+1))=plN fs (l.take j)++[f.name]:=by
 unfold plN;rw[bT,h,cy,List.filterMap_append];simp[hf]
def mX (fs:List Fun) (w:World) (e:Ending) (w':World):Prop:=
 Below w.heap.size w w'/\match(eJ fs).map (mo fs)with
 | none=>e=.returned (.tuple #[bX,.int .i64 0,.int .i64 2])
 | some none=>e=.returned (.tuple #[bX,.int .i64 0,.int .i64 13])
 | some (some r)=>∃v,e=.returned (.tuple #[v,.int .i64 r.2,.int .i64 0])/\w'.ownsRow w.heap.size 40 1 v r.1.length (gf r.1)/\∀x∈r.1,0<=x/\x<4294967296
theorem Dd {w:World} {A:Nat->Prop}:∀{bs:List Nat} {fs:List Fun} {k:Nat} {f:Fun},dV w A bs fs->fs[k]?=some f->∃b,bs[k]?=some b/\ji w A b f
 | [],[],k,f,_,h=>by simp at h
 | b::bs,x::fs,0,f,h,hk=>by simp at hk;subst hk;exact⟨b,rfl,h.1⟩
 | b::bs,x::fs,k+1,f,h,hk=>by
  obtain⟨c,a,d⟩:=Dd h.2 (by simpa using hk);exact⟨c,by simpa using a,d⟩
 | [],_::_,_,_,h,_=>h.elim
 | _::_,[],_,_,h,_=>h.elim
structure MS (fs:List Fun) (l:List Nat) (w0 w:World) (m mf lo j:Nat):Prop where
 chg:Chg (λi=>lo<=i) w0 w
 gq:∃wb,GQ w m mf (mC fs (l.take j)) wb lo j
 words:(mC fs (l.take j)).words.length<=10+j*2700000
 bytes:(mC fs (l.take j)).bytes<=j*48000016
 known:∀t∈plN fs (l.take j),((mC fs (l.take j)).funcs t).isSome
theorem Cs {b0 B:Nat} {e:TypeId} (h:w.ownsRow b0 e size v n xs) (hl:∀q,v.ownBlock=some q->B<=q):w.ownsRow B e size v n xs:=by
 obtain⟨f,c⟩:=h;refine⟨f,?_⟩;rcases c with c|⟨g,a,b,d,i,r⟩
 ·exact .inl c
 ·exact .inr ⟨g,a,b,d,hl g (by rw[d];rfl),r⟩
theorem MS.fn (h:MS fs l w0 w m mf lo j) (hj:j<=200) (hf:fs[k]?=some f) (hfa:ji w (Lt lo) b f) (hP:FunP f) (hsz:bL f.body<=65536) (hpar:f.params.length<=200) (hc:∀s∈cW f.body,s∈plN fs (l.take j)):FnOk w lo b f (mC fs (l.take j)):=by
 obtain⟨c,d,q,o,a,e,g,i,n⟩:=hfa;have:=h.words;have:=h.bytes;exact⟨c,⟨d,q,o,e,g,a,i,n⟩,jf hP.name,λp hp=>jf (wB hP p hp),(xw hP).body,λt ht=>h.known t (hc t ht),hsz,hpar,by omega,by omega⟩
theorem MS.next {wb':Option Nat} (h:MS fs l w0 w m mf lo j) (hg:GQ w m mf (mC fs (l.take j)) wb lo j) (hk:l[j]?=some k) (hf:fs[k]?=some f) (hsz:bL f.body<=65536) (hc:Chg (λi=>i=m\/i=mf\/wb=some i) w u) (hb:(dj f (mC fs (l.take j))).bytes<=(mC fs (l.take j)).bytes+48000016) (hq:GQ u m mf (dj f (mC fs (l.take j))) wb' lo (j+1)):MS fs l w0 u m mf lo (j+1):=by
 have e:mC fs (l.take (j+1))=dj f (mC fs (l.take j)):=by rw[BY fs l hk];unfold BB;rw[hf]
 obtain⟨s,n,b⟩:=hg.gm;obtain⟨q,r,g⟩:=b.l;have d:=hg.l;have o:=(GJ f (mC fs (l.take j))).2.2.2;have p:=h.words;have c:=h.bytes;refine⟨h.chg.then (hc.mono (S':=λi=>lo<=i) λi _ e=>?_),⟨wb',by rw[e];exact hq⟩,by rw[e];omega,by rw[e];omega,λt a=>?_⟩
 ·rcases e with e|e|e
  ·omega
  ·omega
  ·exact g i e
 ·rw[e]
  show((dp f (mC fs (l.take j))).funcs t).isSome=true;unfold dp;simp only;rw[Fe hk hf]at a;split
  ·rfl
  ·rename_i hne
   rcases aU.1 a with a|a
   ·exact h.known t a
   ·rw[aZ]at a;exact absurd a hne
theorem yY (fs:List Fun) (ord:List Nat):mo fs ord=if(qm 0 5 (((mC fs ord).funcs mg).getD (0,0)).1 ⟨(mC fs ord).words,(mC fs ord).bad,0,[]⟩).bad=true\/4096<(qm 0 5 (((mC fs ord).funcs mg).getD (0,0)).1 ⟨(mC fs ord).words,(mC fs ord).bad,0,[]⟩).words.length\/4096<max ((mC fs ord).bytes+255) 256/256*256 then none else some ((qm 0 5 (((mC fs ord).funcs mg).getD (0,0)).1 ⟨(mC fs ord).words,(mC fs ord).bad,0,[]⟩).words,max ((mC fs ord).bytes+255) 256/256*256):=rfl
theorem MS.start {u2 u4 u5:World} (hT:Tab u2) (h4:4<u2.heap.size) (h:ep (u2.heap.size+1) (mP u2.heap.size) (.int .i64 0) cM bX (dt 0 (fg 5 ⟨[],false,0,[]⟩)) none u2.heap.size ((u2.alloc (.map #[] 0)).alloc (.cells #[bX,mP u2.heap.size,.int .i64 0,cM,bX,.bool false] 332)) u5):MS fs l u2 u5 (u2.heap.size+1) u2.heap.size u2.heap.size 0:=by
 obtain⟨a,j,g,_⟩:=h;have f:Below u2.heap.size u2 ((u2.alloc (.map #[] 0)).alloc (.cells #[bX,mP u2.heap.size,.int .i64 0,cM,bX,.bool false] 332)):=(az).alloc (by simp) _;have d:bz ((u2.alloc (.map #[] 0)).alloc (.cells #[bX,mP u2.heap.size,.int .i64 0,cM,bX,.bool false] 332)) u2.heap.size (λ_=>none) 0:=(bz.made u2).below (az);refine⟨((Chg.of_below f).then (a.mono (S':=λi=>u2.heap.size<=i) λi _ e=>?_)),⟨j,⟨⟨cM,bX,?_⟩,⟨0,_,d.chg a ?_,ag _,λt wd bs ht=>?_⟩,ag _,λt p hp=>?_⟩⟩,?_,aV _,λt ht=>?_⟩
 ·rcases e with e|e
  ·omega
  ·cases e
 ·rw[bO];exact g
 ·exactλe=>by
   rcases e with e|e
   ·omega
   ·cases e
 ·rw[bO]at ht;cases ht
 ·rw[bO]at hp;cases hp
 ·rw[bO]
  have b:=(oC 0 (fg 5 ⟨[],false,0,[]⟩)).2.2;have c:=(gV 5 ⟨[],false,0,[]⟩).2.2;show(dt 0 (fg 5 ⟨[],false,0,[]⟩)).words.length<=_;rw[b,c];simp
 ·rw[bO]at ht;cases ht
theorem yX (fs:List Fun) (bs:List Nat) (w:World) (pb:Nat) (pv:Value) (hP:PrgAt w w.heap.size pb pv bs fs) (hw:∀f∈fs,FunP f) (hE:Env w w.heap.size bs fs) (ht:Tab w):
  Calls prog 185 #[pB pb] w (mX fs w):=by
 have a5:∀f∈fs,FunW f:=λf hf=>xw (hw f hf);have N:=aa (vG fs bs w pb pv hP a5 hE);have HP:=aa hP;have HE:=aa hE;have HT:=aa ht;have aU:=aa a5;have aT:=aa hw;clear hP hE ht a5 hw;cases hck:eJ fs with
 | none =>
  have Z:=aa hck
  go_enter func185,ntmps185
  go_wp2_with fail;refine N.mono ?_;rintro e u ⟨E,A⟩;rw[Z.out]at A;obtain⟨b,c,ln,rfl,_⟩:=A;have I:=aa (show mX fs w (.returned (.tuple #[bX,.int .i64 0,.int .i64 2])) u from⟨E,by rw[Z.out];rfl⟩);clear E N hck;go_wp2_with fail
  go_ret3
  exact I.out
 | some ord =>
  have Z:=aa hck;have a1:=aa (IA hck);clear hck
  go_enter func185,ntmps185
  go_wp2_with fail;refine N.mono ?_;rintro e u ⟨E,A⟩;rw[Z.out]at A;have m:e=.returned .nilIface:=A;subst m;have a7:aX (Lt w.heap.size) w u:=aX.below E;have a3:PrgAt u u.heap.size pb pv bs fs:=by
   have o:=HP.onA a7;exact⟨o.node,o.own.weak λk y _=>y,o.funs.weak λk y _=>y,bu o.lt E.size⟩
  have a2:Env u u.heap.size bs fs:=by
   have o:=HE.onA a7;exact⟨o.funs.weak λk y _=>y,o.mx,bu o.l4 E.size⟩
  have HO:=aa (Ar fs bs u pb pv a3 aU.out a2 ord Z.out);have HB:=aa E;have ah:=aa a3;have bm:=a2.l4;have al:=aa (HT.below E);clear E A a7 a3 a2 N;go_wp2_with fail;refine HO.mono ?_;rintro e a ⟨F,v,rfl,C⟩;obtain⟨oa,on,oc,rfl⟩:=bD C;have b8:on=ord.length:=gS C rfl;subst b8;have X:=aa (HB.trans (F.mono HB.size));have D:=aa (show PrgAt a a.heap.size pb pv bs fs by
   have o:=ah.onA (aX.below F);exact⟨o.node,o.own.weak λk y _=>y,o.funs.weak λk y _=>y,bu o.lt F.size⟩)
  have am:=aa (al.below F);have T:=aa C;have br:=F.size;clear F C HO ah al;have bn:=@run_makeMap prog;go_wp2_with fail;have aq:GM ((a.alloc (.map #[] 0)).alloc (.cells #[bX,mP a.heap.size,.int .i64 0,cM,bX,.bool false] 332)) (a.heap.size+1) (mP a.heap.size) (.int .i64 0) cM bX ⟨[],false,0,[]⟩ none a.heap.size:=
   ⟨⟨bX,sU (by simp),bq _ _ _ _,rfl⟩,(λx hx=>by cases hx),(am.below (az)).below (az),by omega,by omega,λq V=>by cases V⟩
  have HJ:=aa (l8 _ _ _ _ _ _ _ _ _ aq (by show 0<=_;omega) 5);have Y:=aa (λu5 h=>MS.start (u4:=a) (u5:=u5) (fs:=fs) (l:=ord) am.out (by omega) h);clear aq;generalize(a.alloc (.map #[] 0)).alloc (.cells #[bX,mP a.heap.size,.int .i64 0,cM,bX,.bool false] 332)=u3 at HJ Y ⊢;refine HJ.mono ?_;rintro e u4 ⟨jv,rfl,_,V⟩;have ak:=aa (ep.call (show ep _ _ _ _ _ _ none a.heap.size u3 u4 from V) λwb' hg=>qn u4 _ _ _ _ _ _ wb' _ hg (by rw[(gV 5 ⟨[],false,0,[]⟩).2.2];simp) 0);clear V HJ;go_wp2_with fail;refine ak.mono ?_;rintro e u5 ⟨rfl,h5⟩;have af:=aa (Y.out u5 h5);clear h5 ak Y;go_wp2_with fail
  go_loopw [9,32] (λ_ s32 wr=>∃j:Nat,s32=.int .i64 j/\j<=ord.length/\Hid (MS fs ord a wr (a.heap.size+1) a.heap.size a.heap.size j)) (λ_ s32 _=>match s32 with | .int _ j=>ord.length-j.toNat|_=>0)
  case atStart=>exact⟨0,rfl,aV _,af⟩
  case round =>
   clear af
   rename World=>w7
   obtain⟨j,rfl,hj,A⟩:=hrel;have bp:=a1.len;have M:aX (Lt a.heap.size) a w7:=A.out.chg.sameOn λk y e=>by have:k<a.heap.size:=y;omega
   by_cases hlt:j<ord.length
   ·have aB:decide ((j:Int)<(ord.length:Int))=true:=by simp;omega
    have aK:ord.length-((j:Int)+1).toNat<ord.length-(j:Int).toNat:=ee hlt;obtain⟨k,y⟩:∃k,ord[j]?=some k:=⟨_,aw hlt⟩;obtain⟨f,hf,aP,aM,B⟩:=a1.at' j k y;obtain⟨b,E,aC⟩:=Dd D.funs hf;have aD:=aJ hf;have L:w7.ownsRow u.heap.size 3 1 (.slice oa ord.length oc) ord.length (Em ord):=aY T.out A.out.chg λq V e=>by have:=uG T.out V;omega
    obtain⟨og,rfl,aL⟩:=qB L hlt;have bh:w7.cell? ⟨og,j,none⟩=some (.int .i64 k):=by rw[aL];unfold Em;rw[aG,y];rfl
    obtain⟨pa,pn,pc,ba⟩:=bD D.own.1;subst ba;have b9:pn=bs.length:=gS D.own.1 rfl;subst b9;have J:=D.own.on M;obtain⟨b6,_⟩:=aE.1 E;obtain⟨pg,rfl,aN⟩:=qB J.1 b6;have bi:w7.cell? ⟨pg,k,none⟩=some (pB b):=by rw[aN,aG,E];rfl
    have bo:w7.cell? ⟨pb,0,none⟩=some (.slice (some ⟨pg,0,none⟩) bs.length pc):=(ae (M pb _ D.lt D.node) 0).trans rfl;obtain⟨be,d⟩:=A.out.gq;have aW:=aa d;have U:ji w7 (Lt a.heap.size) b f:=aC.onA M;have ab:=aa (vh w7 _ _ b _ be _ j f d (by omega) (A.out.fn (by omega) hf U (aT.out f aD) aP aM B));have b0:=A;have HK:=aa y;have I:=aa hf;clear A M y hf B E aC L aL J aN d U aD;go_wp2_with fail;refine ab.mono ?_;rintro e W ⟨rfl,G,av,bd,aO,_⟩;have ai:=aa (b0.next aW.out HK.out I.out aP G av aO);clear G av aO ab;go_wp2_with fail;exact⟨⟨j+1,by simp,hlt,ai⟩,aK⟩
   ·have aH:j=ord.length:=by omega
    have aB:decide ((j:Int)<(ord.length:Int))=false:=by simp;omega
    have m:=A.out;rw[aH]at m;have a8:=m.words;have a4:=m.bytes;obtain⟨bc,d⟩:=m.gq;have P:=m.known mg (by rw[cg];exact a1.main);have aS:=aa m.chg;rw[cg]at a8 a4 d P;obtain⟨s,hs⟩:∃s,mC fs ord=s:=⟨_,rfl⟩;rw[hs]at a8 a4 d P;have HS:=aa hs;obtain⟨⟨wd,b2⟩,R⟩:=iZ.1 P;obtain⟨bw,Lf,ar,_,aF⟩:=d.funcs;obtain⟨p,bv,c',k',au,_,K⟩:=aF mg wd b2 R;have aR:=(d.bd mg _ R).1;obtain⟨nv,ev,hG⟩:=d.gm;obtain⟨wv,aI,_⟩:=hG.ex;have ad:=aa hG.l.2.2;unfold oT at K;have m1:w7.cell? ⟨a.heap.size+1,1,none⟩=some (mP a.heap.size):=(ae aI 1).trans rfl;have p0:w7.cell? ⟨p,0,none⟩=some (.int .i64 wd):=(ae K 0).trans rfl;have b7:(Instr.lookup 328 (mP a.heap.size) (.string ⟨#[109,97,105,110]⟩) false).run prog w7=.ok (pB p) w7:=by
     have:=ar.look2 (t:=328) (e:=329) underlying328 (z:=.pointer none) rfl (s:=mg) (by decide) false;rw[au]at this;exact this
    have bt:s.words.length<=600000000:=by omega
    have aj:=aa (wD w7 _ _ _ _ _ ⟨s.words,s.bad,0,[]⟩ bc _ hG (by show s.words.length<=_;omega) 0 wd 5 (by omega) (by show wd<=_;exact aR));have aZ:=aa R;have bg:s.bytes<=10000000000:=by omega
    clear A m d P hs R ar aF au K hG aI aH a8 a4 M;go_wp2_with fail;refine aj.mono ?_;rintro e W ⟨rfl,G,bd,O,b4⟩;obtain⟨g,hg⟩:∃g,qm 0 5 wd ⟨s.words,s.bad,0,[]⟩=g:=⟨_,rfl⟩;rw[hg]at O;have bk:=aa hg;obtain⟨bx,Q,n,aQ⟩:=O.ex;obtain⟨ga,gn,gc,rfl⟩:=bD n;have b5:gn=g.words.length:=gS n rfl;subst b5;have n0:W.cell? ⟨a.heap.size+1,0,none⟩=some (.slice ga g.words.length gc):=(ae Q 0).trans rfl;have n2:W.cell? ⟨a.heap.size+1,2,none⟩=some (.int .i64 s.bytes):=(ae Q 2).trans rfl;have n5:W.cell? ⟨a.heap.size+1,5,none⟩=some (.bool g.bad):=(ae Q 5).trans rfl;have S:=aa O;have b1:=aa n;have an:=aa aQ;have bj:=aa G;obtain⟨H,aA⟩:∃H,max (s.bytes+255) 256/256*256=H:=⟨_,rfl⟩;have ag:=aa (show mo fs ord=if g.bad=true\/4096<g.words.length\/4096<H then none else some (g.words,H) by
     rw[yY,HS.out,aZ.out,Option.getD_some,hg,aA])
    have bl:max ((s.bytes:Int)+256-1) 256/256*256=(H:Int):=by omega
    have bf:H<=20000000000:=by omega
    have a9:=aa (show Below w.heap.size w W by
     have o:Chg (λi=>a.heap.size<=i) w7 W:=G.mono λi _ e=>by
      rcases e with e|e
      ·show a.heap.size<=i;omega
      ·exact ad.out i e
     exact(aS.then o).below X.out λi hi=>ay X.size hi)
    obtain⟨gb,a6⟩:∃gb,g.bad=gb:=⟨_,rfl⟩;rw[a6]at n5;have ac:=aa a6;have a0:Hid ((gb=true\/4096<g.words.length\/4096<H)->mX fs w (.returned (.tuple #[bX,.int .i64 0,.int .i64 13])) W):=λh=>⟨a9.out,by
     rw[Z.out];show match some (mo fs ord)with|none=>_|some none=>_|some (some r)=>_
     rw[ag.out,ac.out,ax h]⟩
    have ao:Hid (¬(gb=true\/4096<g.words.length\/4096<H)->mX fs w (.returned (.tuple #[.slice ga g.words.length gc,.int .i64 H,.int .i64 0])) W):=λh=>⟨a9.out,by
     rw[Z.out];show match some (mo fs ord)with|none=>_|some none=>_|some (some r)=>_
     rw[ag.out,ac.out,ap h];exact⟨_,rfl,Cs b1.out λq V=>ay X.size (S.l.2.2 q (an.out▸V)),S.rg⟩⟩
    clear G O n Q hg aj m1 p0 b7 b4 aA a6
    by_cases o:gb=true
    ·subst o
     have I:=aa (a0.out (.inl rfl));go_wp2_with fail
     go_ret3
     exact I.out
    ·have b3:gb=false:=by simpa using o
     subst b3
     by_cases h2:4096<g.words.length
     ·have d2:decide ((4096:Int)<(g.words.length:Int))=true:=by simp;omega
      have I:=aa (a0.out (.inr (.inl h2)));go_wp2_with fail
      go_ret3
      exact I.out
     ·have d2:decide ((4096:Int)<(g.words.length:Int))=false:=by simp;omega
      by_cases h3:4096<H
      ·have d3:decide ((4096:Int)<(H:Int))=true:=by simp;omega
       have I:=aa (a0.out (.inr (.inr h3)));go_wp2_with fail
       go_ret3
       exact I.out
      ·have d3:decide ((4096:Int)<(H:Int))=false:=by simp;omega
       have I:=aa (ao.out (by simp[h2,h3]));go_wp2_with fail
       go_ret3
       exact I.out
theorem Jg (fs:List Fun) (bs:List Nat) (w:World) (pb:Nat) (pv:Value) (hP:PrgAt w w.heap.size pb pv bs fs) (hw:∀f∈fs,FunP f) (hE:Env w w.heap.size bs fs) (ht:Tab w):
  Calls prog 124 #[pB pb] w λe w'=>Below w.heap.size w w'/\∃v c,e=.returned (.tuple #[v,.int .i64 c])/\∃n,mX fs w (.returned (.tuple #[v,.int .i64 n,.int .i64 c])) w':=by
 have H:=aa (yX fs bs w pb pv hP hw hE ht);clear hP hw hE ht
 go_enter func124,ntmps124
 go_wp2_with fail;refine H.mono ?_;intro e u a;have b:=a;obtain⟨g,a⟩:=a;obtain⟨v,n,c,rfl⟩:∃v n c,e=.returned (.tuple #[v,.int .i64 n,.int .i64 c]):=by
  split at a
  ·exact⟨_,_,_,a⟩
  ·exact⟨_,_,_,a⟩
  ·obtain⟨v,h,_⟩:=a;exact⟨_,_,_,h⟩
 have d:=aa (And.intro g b);clear g a b H;go_wp2_with fail;go_ret2;exact⟨d.out.1,_,_,rfl,_,d.out.2⟩
theorem BG (fs:List Fun) (bs:List Nat) (w:World) (pb:Nat) (pv:Value) (hP:PrgAt w w.heap.size pb pv bs fs) (hw:∀f∈fs,FunP f) (hE:Env w w.heap.size bs fs) (ht:Tab w):
  Calls prog 125 #[pB pb] w λe w'=>Below w.heap.size w w'/\∃n c,e=.returned (.tuple #[.int .i64 n,.int .i64 c])/\∃v,mX fs w (.returned (.tuple #[v,.int .i64 n,.int .i64 c])) w':=by
 have H:=aa (yX fs bs w pb pv hP hw hE ht);clear hP hw hE ht
 go_enter func125,ntmps125
 go_wp2_with fail;refine H.mono ?_;intro e u a;have b:=a;obtain⟨g,a⟩:=a;obtain⟨v,n,c,rfl⟩:∃v n c,e=.returned (.tuple #[v,.int .i64 n,.int .i64 c]):=by
  split at a
  ·exact⟨_,_,_,a⟩
  ·exact⟨_,_,_,a⟩
  ·obtain⟨v,h,_⟩:=a;exact⟨_,_,_,h⟩
 have d:=aa (And.intro g b);clear g a b H;go_wp2_with fail;go_ret2;exact⟨d.out.1,_,_,rfl,_,d.out.2⟩
end Go.Proofs.YtbeaaimcpkogcaaGreatDoor
