/- Lemmas on the way to the claim. -/
import Derived.Laws.EntriesVeiled
import Derived.Test.YtbeaaimcpkogcaaGreatDoorM42
set_option linter.unusedSimpArgs false
set_option linter.unusedVariables false
set_option maxHeartbeats 8000000
set_option maxRecDepth 100000
namespace Go.Proofs.YtbeaaimcpkogcaaGreatDoor
open Go.Proofs.Tryz Go.RowKit
variable {u w w1:World} {b f:Nat} {p:Bool} {l:Ex} {x y:Value} {g:GS} {eb wb:Option Nat} {A:Nat->Prop} {o:Obj}
variable {K:GC}
theorem cB {k0:Int} {nm:Tx} {l r:Value} {ln:Int} (h:w.heap[b]?=some (stC k0 nm p l r x y ln)):
  w.cell? ⟨b,0,none⟩=some (.int .i64 k0)/\w.cell? ⟨b,1,none⟩=some (.string ⟨nm.toArray⟩)/\w.cell? ⟨b,2,none⟩=some (.bool p)/\w.cell? ⟨b,3,none⟩=some l/\w.cell? ⟨b,4,none⟩=some r/\w.cell? ⟨b,5,none⟩=some x/\w.cell? ⟨b,6,none⟩=some y:=
 ⟨(ae h 0).trans rfl,(ae h 1).trans rfl,(ae h 2).trans rfl,(ae h 3).trans rfl,(ae h 4).trans rfl,(ae h 5).trans rfl,(ae h 6).trans rfl⟩
theorem GR.names (h:GR K g wb eb w u) {s:Tx} (hs:s.length<=4294967296):u.cell? ⟨K.m,3,none⟩=some (pB K.pl)/\u.cell? ⟨K.pl,2,none⟩=some (mP K.mn)/\(Instr.lookup 110 (mP K.mn) (.string ⟨s.toArray⟩) false).run prog u.drew=.ok (.int .i64 (K.E.names s)) u.drew/\K.E.names s<=2000000000000:=by
 obtain⟨_,j,d,a,_⟩:=h;obtain⟨l,k,f,_⟩:=a.ex;obtain⟨n,i,_⟩:=f.ex;have c:=a.pl;unfold oT at c;obtain⟨sz,L,e,b⟩:=a.names;refine⟨(ae i 3).trans rfl,(ae c 2).trans rfl,?_,a.bd.2.2.2.1 s⟩;have:=(e.below (ai _ _).drew).look2 (t:=110) underlying110 (Et _) hs false;rw[b s]at this;exact this
def GBl (K:GC) (fp:Bool) (l:List Sm):Prop:=∀w g wb eb f v,GI K w g wb eb->jU w (Lt K.lo) v l->f<K.lo->FAt w f fp->bL l<=900000->g.words.length+40*bL l<=690000000->g.ends.length+bL l<=1000000->(∀s∈cW l,(K.E.funcs s).isSome)->ye l->Calls prog 257 #[pB K.m,pB f,v] w (pA K (mi K.E fp l g) wb eb w)
section
variable {w u:World} {g g0:GS} {wb eb:Option Nat} {fp:Bool}
theorem GR.block {l:List Sm} {v:Value} (h:GR K g wb eb w u) (hi:GI K w g0 wb eb) (hb:GBl K fp l) (hv:jU w (Lt K.lo) v l) (hf:f<K.lo) (hfn:FAt w f fp) (h1:bL l<=900000) (h2:g.words.length+40*bL l<=690000000) (h3:g.ends.length+bL l<=1000000) (h4:∀s∈cW l,(K.E.funcs s).isSome) (h5:ye l):
  Calls prog 257 #[pB K.m,pB f,v] u λe v=>e=.returned (.tuple #[])/\GR K (mi K.E fp l g) wb eb w v/\gF u v:=
 h.call λwb' eb' hi'=>hb u g wb' eb' f v hi' (by obtain⟨a,b,c⟩:=hv;exact⟨a,b.on (h.tree hi),c.onA (h.tree hi)⟩) hf (hfn.on (h.tree hi) hf) h1 h2 h3 h4 h5
theorem GR.st {x:Sm} (h:GR K g wb eb w u) (hi:GI K w g0 wb eb) (hx:GSt K fp x) (ht:ci w (Lt K.lo) b x) (hf:f<K.lo) (hfn:FAt w f fp) (h1:cP x<=900000) (h2:g.words.length+40*cP x<=690000000) (h3:g.ends.length+cP x<=1000000) (h4:∀s∈bY x,(K.E.funcs s).isSome) (h5:SmW x):
  Calls prog 268 #[pB K.m,pB f,pB b] u λe v=>e=.returned (.tuple #[])/\GR K (stG K.E fp x g) wb eb w v/\gF u v:=
 h.call λwb' eb' hi'=>hx u g wb' eb' f b hi' ⟨ht.onA (h.tree hi),hf,hfn.on (h.tree hi) hf,h1,h2,h3,h4,h5⟩
theorem GR.ansS {x:Ex} (h:GR K g wb eb w u) (hi:GI K w g0 wb eb) (hx:bK w (Lt K.lo) b x) (hk:cN x<=1000000) (hw:g.words.length+40*cN x<=700000000) (hc:∀s∈bn x,(K.E.funcs s).isSome) (hwx:ExW x):
  Calls prog 258 #[pB K.m,pB b,.bool p] u λe v=>e=.returned (.tuple #[])/\GR K (cS K.E p (some x) g) wb eb w v/\gF u v:=
 h.call λwb' eb' hi'=>yd u g wb' eb' hi' x b (hx.onA (h.tree hi)) p hk hw hc hwx
theorem GR.ansN (h:GR K g wb eb w u) (hw:g.words.length<=700000000):
  Calls prog 258 #[pB K.m,.pointer none,.bool p] u λe v=>e=.returned (.tuple #[])/\GR K (cS K.E p none g) wb eb w v/\gF u v:=
 h.call λwb' eb' hi'=>D3 u g wb' eb' hi' p hw
end
theorem Kd (fp:Bool) (n:Tx):GSt K fp (.var n true none):=by
 intro w g P L f b j c;have t:=c.at';have l:=c.w;have k:=c.sz;have B:=c.len;have q:=c.calls;have i:=c.ends;have M:=c.fl;have A:=c.fn;rw[ci]at t;unfold SmW at l;rw[cP]at k B i;rw[bY]at q;obtain⟨z,N,hn⟩:=t;obtain⟨F,_,G,_,H,_⟩:=cB hn;have v:=aa j;have x:=aa hn;have J:=(rm 3 g).2.2;have o:=aa ((GR.start j).null (r:=3) (by omega));clear j c hn q
 go_enter func268,ntmps268
 go_wp2_with fail;refine o.mono ?_;rintro e I ⟨rfl,h,_⟩;obtain⟨D,C,m,E⟩:=h.names (s:=n) (by first|exact l|exact l.1);obtain⟨_,y,_⟩:=cB (h.tree v.out b _ z x.out);have d:=aa ((h.below (ai _ _).drew).store (r:=3) (a:=K.E.names n) (by omega) (by omega));clear h o F G H;go_wp2_with fail
 go_still_tail 13,(by kernel_rfl)
 change wpList _ _ _ _ _ I.drew;go_wp2_with fail;refine d.mono ?_;rintro e O ⟨rfl,p,_⟩;have u:=aa p;clear p d D C m y;go_wp2_with fail;go_end0;exact⟨rfl,by rw[stG];exact u.out⟩
theorem Kf (fp:Bool) (n:Tx):GSt K fp (.var n false none):=by
 intro w g P L f b j c;have t:=c.at';have l:=c.w;have k:=c.sz;have B:=c.len;have q:=c.calls;have i:=c.ends;have M:=c.fl;have A:=c.fn;rw[ci]at t;unfold SmW at l;rw[cP]at k B i;rw[bY]at q;obtain⟨z,N,hn⟩:=t;obtain⟨F,_,G,_,H,_⟩:=cB hn;have v:=aa j;have x:=aa hn;have J:=(qE 3 0 g).2.2;have o:=aa ((GR.start j).number (r:=3) (n:=0) (by omega) (by omega) (by omega));clear j c hn q
 go_enter func268,ntmps268
 go_wp2_with fail;refine o.mono ?_;rintro e I ⟨rfl,h,_⟩;obtain⟨D,C,m,E⟩:=h.names (s:=n) (by first|exact l|exact l.1);obtain⟨_,y,_⟩:=cB (h.tree v.out b _ z x.out);have d:=aa ((h.below (ai _ _).drew).store (r:=3) (a:=K.E.names n) (by omega) (by omega));clear h o F G H;go_wp2_with fail
 go_still_tail 13,(by kernel_rfl)
 change wpList _ _ _ _ _ I.drew;go_wp2_with fail;refine d.mono ?_;rintro e O ⟨rfl,p,_⟩;have u:=aa p;clear p d D C m y;go_wp2_with fail;go_end0;exact⟨rfl,by rw[stG];exact u.out⟩
theorem Ke (fp:Bool) (n:Tx) (p:Bool) (r:Ex):GSt K fp (.var n p (some r)):=by
 intro w g S O f b m c;have x:=c.at';have o:=c.w;have h:=c.sz;have y:=c.len;have l:=c.calls;have q:=c.ends;have P:=c.fl;have E:=c.fn;rw[ci]at x;unfold SmW at o;rw[cP]at h y q;rw[bY]at l;obtain⟨D,Q,L,hn,i⟩:=x;obtain⟨I,_,_,_,J,_⟩:=cB hn;have A:=aa m;have B:=aa hn;rw[oSz]at y h;rw[qC]at l;have N:=dq K.E r 0 g;have u:=aa (show Calls prog 269 #[pB K.m,pB L,.int .i64 0] w _ from(GR.start m).ex m (fK r) i (k:=0) (by omega) (by omega) l o.2);clear m c hn l i
 go_enter func268,ntmps268
 go_wp2_with fail;refine u.mono ?_;rintro e M ⟨rfl,j,_⟩;obtain⟨G,F,t,H⟩:=j.names (s:=n) (by first|exact o|exact o.1);obtain⟨_,C,_⟩:=cB (j.tree A.out b _ D B.out);have d:=aa ((j.below (ai _ _).drew).store (r:=3) (a:=K.E.names n) (by omega) (by omega));clear j u I J;go_wp2_with fail
 go_still_tail 13,(by kernel_rfl)
 change wpList _ _ _ _ _ M.drew;go_wp2_with fail;refine d.mono ?_;rintro e R ⟨rfl,v,_⟩;have z:=aa v;clear v d G F t C;go_wp2_with fail;go_end0;exact⟨rfl,by rw[stG];exact z.out⟩
theorem LP (fp:Bool) (n:Tx) (r:Ex):GSt K fp (.set n r):=by
 intro w g R N f b j c;have v:=c.at';have l:=c.w;have p:=c.sz;have D:=c.len;have m:=c.calls;have o:=c.ends;have O:=c.fl;have C:=c.fn;rw[ci]at v;unfold SmW at l;rw[cP]at p D o;rw[bY]at m;obtain⟨B,P,J,hn,h⟩:=v;obtain⟨H,_,_,_,I,_⟩:=cB hn;have y:=aa j;have z:=aa hn;have M:=dq K.E r 0 g;have t:=aa (show Calls prog 269 #[pB K.m,pB J,.int .i64 0] w _ from(GR.start j).ex j (fK r) h (k:=0) (by omega) (by omega) m l.2);clear j c hn m h
 go_enter func268,ntmps268
 go_wp2_with fail;refine t.mono ?_;rintro e L ⟨rfl,i,_⟩;obtain⟨F,E,q,G⟩:=i.names (s:=n) (by first|exact l|exact l.1);obtain⟨_,A,_⟩:=cB (i.tree y.out b _ B z.out);have d:=aa ((i.below (ai _ _).drew).store (r:=3) (a:=K.E.names n) (by omega) (by omega));clear i t H I;go_wp2_with fail
 go_still_tail 13,(by kernel_rfl)
 change wpList _ _ _ _ _ L.drew;go_wp2_with fail;refine d.mono ?_;rintro e Q ⟨rfl,u,_⟩;have x:=aa u;clear u d F E q A;go_wp2_with fail;go_end0;exact⟨rfl,by rw[stG];exact x.out⟩
theorem Il (fp:Bool):GSt K fp .drain:=by
 intro w g A u f b d a;have l:=a.at';have q:=a.w;have h:=a.sz;have p:=a.len;have k:=a.calls;have c:=a.ends;have x:=a.fl;have o:=a.fn;rw[ci]at l;unfold SmW at q;rw[cP]at h p c;rw[bY]at k;obtain⟨v,y,hn⟩:=l;obtain⟨r,_⟩:=cB hn;have s:=aa d;have t:=aa hn;have i:=aa ((GR.start d).service (n:=3) (by omega));clear d a hn k
 go_enter func268,ntmps268
 go_wp2_with fail;refine i.mono ?_;rintro e z ⟨rfl,j,_⟩;have m:=aa j;clear j i r;go_wp2_with fail;go_end0;exact⟨rfl,by rw[stG];exact m.out⟩
theorem Kk (fp:Bool) (r:Ex):GSt K fp (.call r):=by
 intro w g E z f b d a;have n:=a.at';have o:=a.w;have j:=a.sz;have s:=a.len;have h:=a.calls;have i:=a.ends;have B:=a.fl;have q:=a.fn;rw[ci]at n;unfold SmW at o;rw[cP]at j s i;rw[bY]at h;obtain⟨A,C,v,hn,c⟩:=n;obtain⟨t,_,_,_,u,_⟩:=cB hn;have x:=aa d;have y:=aa hn;have l:=aa (show Calls prog 269 #[pB K.m,pB v,.int .i64 0] w _ from(GR.start d).ex d (fK r) c (k:=0) (by omega) (by omega) h o.2);clear d a hn h c
 go_enter func268,ntmps268
 go_wp2_with fail;refine l.mono ?_;rintro e D ⟨rfl,m,_⟩;have p:=aa m;clear m l t u;go_wp2_with fail;go_end0;exact⟨rfl,by rw[stG];exact p.out⟩
theorem LQ (fp:Bool) (r:Ex):GSt K fp (.out r):=by
 intro w g J C f b h a;have q:=a.at';have s:=a.w;have k:=a.sz;have x:=a.len;have i:=a.calls;have j:=a.ends;have E:=a.fl;have v:=a.fn;rw[ci]at q;unfold SmW at s;rw[cP]at k x j;rw[bY]at i;obtain⟨D,F,G,hn,d⟩:=q;obtain⟨y,_,_,_,z,_⟩:=cB hn;have A:=aa h;have B:=aa hn;have u:=(tJ K.E false (some r) g).2;rw[oSz]at u;have l:=aa ((GR.start h).ansS (p:=false) h d (by omega) (by omega) i s);clear h a hn i d
 go_enter func268,ntmps268
 go_wp2_with fail;refine l.mono ?_;rintro e H ⟨rfl,m,_⟩;have c:=aa (m.service (n:=4) (by omega));clear m l y z;go_wp2_with fail;refine c.mono ?_;rintro e I ⟨rfl,o,_⟩;have t:=aa o;clear o c;go_wp2_with fail;go_end0;exact⟨rfl,by rw[stG];exact t.out⟩
theorem Ki (fp:Bool) (r:Ex):GSt K fp (.free r):=by
 intro w g J C f b h a;have q:=a.at';have s:=a.w;have k:=a.sz;have x:=a.len;have i:=a.calls;have j:=a.ends;have E:=a.fl;have v:=a.fn;rw[ci]at q;unfold SmW at s;rw[cP]at k x j;rw[bY]at i;obtain⟨D,F,G,hn,d⟩:=q;obtain⟨y,_,_,_,z,_⟩:=cB hn;have A:=aa h;have B:=aa hn;have u:=(tJ K.E false (some r) g).2;rw[oSz]at u;have l:=aa ((GR.start h).ansS (p:=false) h d (by omega) (by omega) i s);clear h a hn i d
 go_enter func268,ntmps268
 go_wp2_with fail;refine l.mono ?_;rintro e H ⟨rfl,m,_⟩;have c:=aa (m.service (n:=2) (by omega));clear m l y z;go_wp2_with fail;refine c.mono ?_;rintro e I ⟨rfl,o,_⟩;have t:=aa o;clear o c;go_wp2_with fail;go_end0;exact⟨rfl,by rw[stG];exact t.out⟩
theorem JA (h:bK w A b l) (hl:∃a c,l=.cell a c\/l=.link a c):A b/\∃lb rb k ln,w.heap[b]?=some (exC k 0 [] [] (pB lb) (pB rb) (.slice none 0 0) ln)/\bK w A lb (kq l)/\bK w A rb (kS l):=by
 obtain⟨a,c,rfl|rfl⟩:=hl<;>(rw[bK]at h;obtain⟨d,ln,lb,rb,e,f,g⟩:=h;exact⟨d,lb,rb,_,ln,e,f,g⟩)
theorem Jz (hl:∃a c,l=.cell a c\/l=.link a c) (hw:ExW l):ExW (kq l)/\ExW (kS l)/\(∀s,s∈bn (kq l)->s∈bn l)/\(∀s,s∈bn (kS l)->s∈bn l)/\cN (kq l)+cN (kS l)+1=cN l:=by
 obtain⟨a,c,rfl|rfl⟩:=hl<;>(unfold ExW at hw;refine⟨hw.1,hw.2,λs h=>?_,λs h=>?_,?_⟩<;>simp only[kq,kS,bn,cN,aU]at*<;> first|exact .inl h|exact .inr h)
theorem Kj (fp:Bool) (l r:Ex):GSt K fp (.cell l r):=by
 intro w g wb eb f b y p;have ht:=p.at';have C:=p.w;have ad:=p.sz;have hw:=p.len;have S:=p.calls;have ab:=p.ends;have hf:=p.fl;have ag:=p.fn;rw[ci]at ht;unfold SmW at C;rw[cP]at ad hw ab;rw[bY]at S;obtain⟨hb,ln,lb,rb,hn,T,U⟩:=ht;obtain⟨q0,_,_,q3,q4,_⟩:=cB hn;have M:=aa y;have HN:=aa hn;obtain⟨ac,xb,yb,kk,ai,B,V,Y⟩:=JA T C.1;obtain⟨X,a0,W,Z,ah⟩:=Jz C.1 C.2.1;obtain⟨_,_,_,_,p4,p5,_⟩:=cn B;have L1:=dq K.E (kq l) 0 g;have L2:=mD K.E 0 (exG K.E (kq l) 0 g);obtain⟨A,m⟩:∃A,lj K.E 0 (exG K.E (kq l) 0 g)=A:=⟨_,rfl⟩;rw[m]at L2;have L3:=dq K.E (kS l) 1 A;have L4:=mD K.E 1 (exG K.E (kS l) 1 A);obtain⟨d,o⟩:∃d,lj K.E 1 (exG K.E (kS l) 1 A)=d:=⟨_,rfl⟩;rw[o]at L4;have L5:=dq K.E r 2 d;have L6:=mJ K.E 4 0 (exG K.E r 2 d);have L7:=mJ K.E 7 1 (mw K.E 4 0 (exG K.E r 2 d));have L8:=(lq 11 7 7 4 (mw K.E 7 1 (mw K.E 4 0 (exG K.E r 2 d)))).2.2;have HG:=aa (show stG K.E fp (.cell l r) g=cL [⟨32,4,4,7,0⟩,⟨24,3,4,0,0⟩] (eI 11 7 7 4 (mw K.E 7 1 (mw K.E 4 0 (exG K.E r 2 d)))) by rw[stG,m,o]);have a5:=aa m;have a6:=aa o;have a7:=aa B;have HY:=aa Y;have HR:=aa U;have a4:=aa (show∀s∈bn (kS l),(K.E.funcs s).isSome fromλs h=>S s (eK _ (Z s h)));have a3:=aa (show∀s∈bn r,(K.E.funcs s).isSome fromλs h=>S s (iy _ h));have a9:=aa a0;have a8:=aa C.2.2;have S0:=aa (sF (n:=0) ⟨y.bd.1,y.bd.2.1⟩ (by omega));have S1:=aa (sF (n:=1) ⟨y.bd.1,y.bd.2.1⟩ (by omega));have HC:=aa (show Calls prog 269 #[pB K.m,pB xb,.int .i64 0] w _ from(GR.start y).ex y (fK (kq l)) V (k:=0) (by omega) (by omega) (λs h=>S s (eK _ (W s h))) X);clear y p hn S U T B V Y X a0 C W Z m o
 go_enter func268,ntmps268
 go_wp2_with fail;refine HC.mono ?_;rintro e u1 ⟨rfl,h1,_⟩;have D:=aa (show Calls prog 275 #[pB K.m,.int .i64 0] u1 _ from h1.keep (n:=0) (by omega));clear h1 HC;go_wp2_with fail;refine D.mono ?_;rintro e u2 ⟨rfl,h2,_⟩;have E:=aa (h2.store (r:=3) (a:=K.E.slot 0) (show(exG K.E (kq l) 0 g).words.length<=_ by omega) S0.out);clear h2 D q3 q4 p4 p5;go_wp2_with fail;refine E.mono ?_;rintro e u3 ⟨rfl,h3,_⟩;have i:GR K (lj K.E 0 (exG K.E (kq l) 0 g)) wb eb w u3:=h3;rw[a5.out]at i;obtain⟨_,_,_,d3,d4,_⟩:=cB (i.tree M.out b _ hb HN.out);obtain⟨_,_,_,_,_,e5,_⟩:=cn (i.tree M.out lb _ ac a7.out);have F:=aa (show Calls prog 269 #[pB K.m,pB yb,.int .i64 1] u3 _ from i.ex M.out (fK (kS l)) HY.out (k:=1) (by omega) (by omega) a4.out a9.out);clear h3 i E q0;go_wp2_with fail;refine F.mono ?_;rintro e u4 ⟨rfl,h4,_⟩;have G:=aa (show Calls prog 275 #[pB K.m,.int .i64 1] u4 _ from h4.keep (n:=1) (by omega));clear h4 F d3 d4 e5;go_wp2_with fail;refine G.mono ?_;rintro e u5 ⟨rfl,h5,_⟩;have H:=aa (h5.store (r:=3) (a:=K.E.slot 1) (show(exG K.E (kS l) 1 A).words.length<=_ by omega) S1.out);clear h5 G;go_wp2_with fail;refine H.mono ?_;rintro e u6 ⟨rfl,h6,_⟩;have j:GR K (lj K.E 1 (exG K.E (kS l) 1 A)) wb eb w u6:=h6;rw[a6.out]at j;obtain⟨_,_,_,_,d4,_⟩:=cB (j.tree M.out b _ hb HN.out);have I:=aa (show Calls prog 269 #[pB K.m,pB rb,.int .i64 2] u6 _ from j.ex M.out (fK r) HR.out (k:=2) (by omega) (by omega) a3.out a8.out);clear h6 j H;go_wp2_with fail;refine I.mono ?_;rintro e u7 ⟨rfl,h7,_⟩;have J:=aa (show Calls prog 275 #[pB K.m,.int .i64 0] u7 _ from h7.keep (n:=0) (by omega));clear h7 I d4;go_wp2_with fail;refine J.mono ?_;rintro e u8 ⟨rfl,h8,_⟩;have L:=aa (h8.load (r:=4) (a:=K.E.slot 0) (show(exG K.E r 2 d).words.length<=_ by omega) S0.out);clear h8 J;go_wp2_with fail;refine L.mono ?_;rintro e u9 ⟨rfl,h9,_⟩;have R:GR K (mw K.E 4 0 (exG K.E r 2 d)) wb eb w u9:=h9;have q:=aa (show Calls prog 275 #[pB K.m,.int .i64 1] u9 _ from R.keep (n:=1) (by omega));clear h9 R L;go_wp2_with fail;refine q.mono ?_;rintro e aj ⟨rfl,N,_⟩;have t:=aa (N.load (r:=7) (a:=K.E.slot 1) (show(mw K.E 4 0 (exG K.E r 2 d)).words.length<=_ by omega) S1.out);clear N q;go_wp2_with fail;refine t.mono ?_;rintro e ae ⟨rfl,O,_⟩;have x:GR K (mw K.E 7 1 (mw K.E 4 0 (exG K.E r 2 d))) wb eb w ae:=O;have u:=aa (x.shift (a:=11) (b:=7) (c:=7) (n:=4) (by omega) (by omega) (by omega));clear O x t;go_wp2_with fail;refine u.mono ?_;rintro e af ⟨rfl,P,_⟩;have a1:=aa P;clear P u;go_wp2_with fail;refine(iB af 32 4 4 7).mono ?_;rintro e z ⟨rfl,hz⟩;have v:=aa ((a1.below hz).emit (c:=2) (n:=2) (nS z 32 4 4 7 0 24 3 4 0 0) rfl (by omega) (by omega));clear hz;go_wp2_with fail;refine v.mono ?_;rintro e ak ⟨rfl,Q,_⟩;have a2:=aa Q;clear Q v;go_wp2_with fail;go_end0;exact⟨rfl,by rw[HG.out];exact a2.out⟩
variable {K:GC}
theorem GR.glue {v:World} {g':GS} {wb' eb':Option Nat} (h1:Chg (GT K wb eb) w u) (h3:wb'=wb\/∀q,wb'=some q->w.heap.size<=q) (h4:eb'=eb\/∀q,eb'=some q->w.heap.size<=q) (h:GR K g' wb' eb' u v):GR K g' wb eb w v:=by
 obtain⟨e,d,a,f,b,c⟩:=h;refine⟨GT.then h1 e h3 h4,d,a,f,?_,?_⟩
 ·rcases b with rfl|b
  ·exact h3
  ·exact .inr λq hq=>ay h1.size (b q hq)
 ·rcases c with rfl|c
  ·exact h4
  ·exact .inr λq hq=>ay h1.size (c q hq)
theorem J2 (x:Sm):1<=cP x:=by cases x<;>(rw[cP];omega)
theorem xi:∀l:List Sm,l.length<=bL l
 | []=>aV _
 | x::l=>by have:=xi l;have:=J2 x;rw[bL,aC];omega
theorem Bv {w:World} {A:Nat->Prop}:∀{bs:List Nat} {xs:List Sm} {j:Nat},cu w A bs xs->j<bs.length->∃b x,bs[j]?=some b/\xs[j]?=some x/\x∈xs/\ci w A b x
 | b::bs,x::xs,0,h,_=>by rw[cu]at h;exact⟨b,x,rfl,rfl,aL ..,h.1⟩
 | b::bs,x::xs,j+1,h,hj=>by
  rw[cu]at h;obtain⟨a,g,c,d,e,f⟩:=Bv h.2 (by simpa using hj);exact⟨a,g,by simpa using c,by simpa using d,aP _ e,f⟩
 | [],_,_,_,hj=>by simp at hj
 | _::_,[],_,h,_=>by rw[cu]at h<;>first|exact h.elim|(intros;simp_all)
theorem Gu:∀{xs:List Sm} {j:Nat} {x:Sm},xs[j]?=some x->bL (xs.take j)+cP x+bL (xs.drop (j+1))=bL xs
 | [],j,x,h=>by simp at h
 | y::xs,0,x,h=>by simp at h;subst h;simp[bL]
 | y::xs,j+1,x,h=>by
  have:=Gu (xs:=xs) (j:=j) (by simpa using h);rw[gW,List.drop_succ_cons,bL,bL];omega
theorem rI {s:Tx} {x:Sm}:∀{xs:List Sm},x∈xs->s∈bY x->s∈cW xs
 | y::xs,h,hs=>by
  rw[cW,aU];rcases aR.1 h with rfl|h
  ·exact .inl hs
  ·exact .inr (rI h hs)
theorem vA {q:World} {ev:Value} {row:Array Value} (h:GI K q g wb eb) (hm:q.heap[K.m]?=some (.cells row 332 (0,0))) (heb:ev.ownBlock=eb) (hg:(q.alloc o).grownBy w1 ev.ownBlock):w1.heap[K.m]?=some (.cells row 332 (0,0)):=by
 rw[hg.block K.m (by have:=ab hm;simp;omega) λe=>(h.ne.2.2.2.2.1 K.m (by rw[<- heb];exact e.symm)).1 rfl,aK _ _ _ (ab hm)];exact hm
theorem oh (fp:Bool) (l:List Sm) (hall:∀x∈l,GSt K fp x):GBl K fp l:=by
 intro w g J H f v P hv hf u a4 hw a2 V E;obtain⟨a,I,i⟩:=hv;obtain⟨X,xn,xc,o⟩:=bD I.1;have R:xn=a.length:=gx I.1 o;subst R;have B:=sw i;have S:=aa P;have Z:=aa I;have L:=aa i;have N:=aa u;have Y:=aa V;have HW:=aa E;have a0:=aa o;have a3:a.length<=1000000:=by have:=xi l;omega
 have r:=aa (show GR K (mi K.E fp (l.take 0) g) J H w w from by rw[bO,mi];exact GR.start P);clear P I i u V E;subst o
 go_enter func257,ntmps257
 go_wp2_with fail
 go_loopw [7,10] (λ_ s10 wr=>∃j:Nat,s10=.int .i64 j/\j<=a.length/\Hid (GR K (mi K.E fp (l.take j) g) J H w wr)) (λ_ s10 _=>match s10 with | .int _ j=>a.length-j.toNat|_=>0)
 case atStart=>exact⟨0,rfl,aV _,r⟩
 case round =>
  clear r
  rename World=>w5
  obtain⟨j,rfl,hj,D⟩:=hrel
  by_cases hlt:j<a.length
  ·have c:=Z.on (D.out.tree S.out)
   obtain⟨p,b,d⟩:∃p b,(.slice X a.length xc:Value)=.slice (some ⟨p,0,none⟩) a.length b:=by
    rcases c.1.2 with⟨_,h0⟩|⟨p,b,a1,d,_⟩
    ·omega
    ·exact⟨p,b,d⟩
   have Q:X=some ⟨p,0,none⟩:=by injection d
   obtain⟨xb,x,F,n,h,G⟩:=Bv L.out hlt;have k:w5.cell? ⟨p,j,none⟩=some (pB xb):=by
    rw[(d▸c.1:w5.ownsRow 0 195 1 (.slice (some ⟨p,0,none⟩) a.length b) a.length (a.map pB)).cellAt j (by omega),aG,F];rfl
   subst Q;have s:decide ((j:Int)<(a.length:Int))=true:=by simp;omega
   have C:a.length-((j:Int)+1).toNat<a.length-(j:Int).toNat:=ee hlt;have W:=Gu n;have m:=nz K.E fp (l.take j) g;have z:=m.1;have A:=m.2.1;have T:=aa (D.out.st S.out (hall x h) G hf N.out (by omega) (by omega) (by omega) (λt ht=>Y.out t (rI h ht)) (wy HW.out h));have M:=aa (show mi K.E fp (l.take (j+1)) g=stG K.E fp x (mi K.E fp (l.take j) g) by
    rw[bT,n,cy,yw])
   clear c d F n h G D m z A;go_wp2_with fail;refine T.mono ?_;rintro e u1 ⟨rfl,U,_⟩;have q:=aa (show GR K (mi K.E fp (l.take (j+1)) g) J H w u1 from M.out▸U);clear U T k;go_wp2_with fail;exact⟨⟨j+1,by simp,hlt,q⟩,C⟩
  ·have y:j=a.length:=by omega
   have s:decide ((j:Int)<(a.length:Int))=false:=by simp;omega
   have O:=aa (show GR K (mi K.E fp l g) J H w w5 from by have:=D.out;rw[y,<- B,cg]at this;exact this);clear D y;go_wp2_with fail;go_end0;exact⟨rfl,O.out⟩
theorem LR (fp:Bool) (r:Ex) (a c:List Sm) (ha:GBl K fp a) (hcb:GBl K fp c):GSt K fp (.iff r a c):=by
 intro w g wb eb f b H o;have ht:=o.at';have C:=o.w;have a1:=o.sz;have hw:=o.len;have z:=o.calls;have a0:=o.ends;have hf:=o.fl;have A:=o.fn;rw[ci]at ht;unfold SmW at C;rw[cP]at a1 hw a0;rw[bY]at z;obtain⟨hb,ln,rb,vx,vy,bx,Z,hn,B,ox,sx,oy,sy⟩:=ht;obtain⟨q0,_,_,_,q4,q5,q6⟩:=cB hn;have E:=aa H;have HN:=aa hn;have L1:=dq K.E r 0 g;have E1:=jz K.E r 0 g;obtain⟨d,j⟩:∃d,exG K.E r 0 g=d:=⟨_,rfl⟩;rw[j]at L1 E1;have L2:=(hQ 26 3 d).2.2;have J:=(hQ 26 3 d).2.1;rw[E1]at J;have D:=nz K.E fp a (ce 26 3 d);obtain⟨i,l⟩:∃i,mi K.E fp a (ce 26 3 d)=i:=⟨_,rfl⟩;rw[l]at D;have A2:=D.1;have A3:=D.2.1;rw[J]at A3;have L3:=(gV 6 i).2.2;have E3:=(gV 6 i).2.1;have L4:=(kK (d.words.length+1) 6 (fg 6 i)).2.2;have L:=(kK (d.words.length+1) 6 (fg 6 i)).2.1;rw[E3]at L;obtain⟨F,m⟩:∃F,fG (d.words.length+1) 6 (fg 6 i)=F:=⟨_,rfl⟩;rw[m]at L4 L;rw[<- L]at A3;have B1:=(nz K.E fp c F).1;have HG:=aa (show stG K.E fp (.iff r a c) g=fG i.words.length 6 (mi K.E fp c F) by rw[stG];simp only[j,l,m]);have R:=aa j;have S:=aa l;have T:=aa m;have HA:=aa (show jU w (Lt K.lo) vx a from⟨bx,ox,sx⟩);have HB:=aa (show jU w (Lt K.lo) vy c from⟨Z,oy,sy⟩);have y:=aa A;have M:=aa (show∀s∈cW a,(K.E.funcs s).isSome fromλs h=>z s (eK _ (iy _ h)));have N:=aa (show∀s∈cW c,(K.E.funcs s).isSome fromλs h=>z s (iy _ h));have X:=aa C.2.1;have Y:=aa C.2.2;have HC:=aa (show Calls prog 269 #[pB K.m,pB rb,.int .i64 0] w _ from(GR.start H).ex H (fK r) B (k:=0) (by omega) (by omega) (λs h=>z s (eK _ (eK _ h))) C.1);clear H o hn z B ox sx oy sy j l m C A D
 go_enter func268,ntmps268
 go_wp2_with fail;refine HC.mono ?_;rintro e u1 ⟨rfl,h1,_⟩;rw[R.out]at h1;have p:=aa (h1.jump (hQ 26 3 d).1 (hQ 26 3 d).2.1 λev wb' hg=>oL u1 _ _ _ _ _ d wb' _ hg (by omega) 3);clear h1 HC q0 q4 q5 q6;go_wp2_with fail;refine p.mono ?_;rintro e u2 ⟨jv,rfl,I,h2,_⟩;obtain⟨b1,b2,b3,rfl,I⟩:=I;have U:=aa (JAt.b u2 K.m (d.words.length+1) _ 6 I);obtain⟨_,_,_,_,_,d5,_⟩:=cB (h2.tree E.out b _ hb HN.out);have q:=aa (h2.block E.out ha HA.out hf y.out (by omega) (by omega) (by rw[J];omega) M.out X.out);clear h2 I p;go_wp2_with fail;refine q.mono ?_;rintro e u3 ⟨rfl,h3,k3⟩;have V:=aa (U.keeps k3);rw[S.out]at h3;have t:=aa (h3.jump (gV 6 i).1 (gV 6 i).2.1 λev wb' hg=>l8 u3 _ _ _ _ _ i wb' _ hg (by omega) 6);clear h3 k3 q d5;go_wp2_with fail;refine t.mono ?_;rintro e u4 ⟨a2,rfl,n,h4,k4⟩;obtain⟨c1,c2,c3,rfl,n⟩:=n;have W:=aa (V.keeps k4);have O:=aa (JAt.b u4 K.m i.words.length _ 6 n);have u:=aa (h4.here W.out (by omega) (by omega));clear h4 k4 n t;go_wp2_with fail;refine u.mono ?_;rintro e u5 ⟨rfl,G,k5⟩;rw[T.out]at G;have P:=aa (O.keeps k5);obtain⟨_,_,_,_,_,_,d6⟩:=cB (G.tree E.out b _ hb HN.out);have v:=aa (G.block E.out hcb HB.out hf y.out (by omega) (by omega) (by omega) N.out Y.out);clear G k5 u;go_wp2_with fail;refine v.mono ?_;rintro e u6 ⟨rfl,h6,k6⟩;have Q:=aa (P.keeps k6);have x:=aa (h6.here Q.out (by omega) (by omega));clear h6 k6 v d6;go_wp2_with fail;refine x.mono ?_;rintro e u7 ⟨rfl,h7,_⟩;have H7:=aa h7;clear h7 x;go_wp2_with fail;go_end0;exact⟨rfl,by rw[HG.out];exact H7.out⟩
theorem LO (fp:Bool) (r:Ex) (a:List Sm) (ha:GBl K fp a):GSt K fp (.whl r a):=by
 intro w g wb eb f b v m;have Y:=m.at';have B:=m.w;have Q:=m.sz;have hw:=m.len;have z:=m.calls;have P:=m.ends;have hf:=m.fl;have u:=m.fn;rw[ci]at Y;unfold SmW at B;rw[cP]at Q hw P;rw[bY]at z;obtain⟨hb,ln,rb,vx,bx,hn,x,ox,sx⟩:=Y;obtain⟨q0,_,_,_,q4,q5,_⟩:=cB hn;have U:=aa v;have HN:=aa hn;have L1:=dq K.E r 0 g;have R:=jz K.E r 0 g;obtain⟨c,j⟩:∃c,exG K.E r 0 g=c:=⟨_,rfl⟩;rw[j]at L1 R;have L2:=(hQ 26 3 c).2.2;have S:=(hQ 26 3 c).2.1;rw[R]at S;have C:=nz K.E fp a (ce 26 3 c);obtain⟨i,l⟩:∃i,mi K.E fp a (ce 26 3 c)=i:=⟨_,rfl⟩;rw[l]at C;have A2:=C.1;have L3:=(gV 6 i).2.2;have L4:=(rj i.words.length 6 g.words.length (fg 6 i)).2.2;have HG:=aa (show stG K.E fp (.whl r a) g=fG (c.words.length+1) 6 (qm i.words.length 6 g.words.length (fg 6 i)) by rw[stG];simp only[j,l]);have F:=aa j;have G:=aa l;have HA:=aa (show jU w (Lt K.lo) vx a from⟨bx,ox,sx⟩);have E:=aa u;have D:=aa (show∀s∈cW a,(K.E.funcs s).isSome fromλs h=>z s (iy _ h));have M:=aa B.2;obtain⟨ma,mc,m0⟩:=(GR.start v).maker;have T:=aa (show Calls prog 269 #[pB K.m,pB rb,.int .i64 0] w _ from(GR.start v).ex v (fK r) x (k:=0) (by omega) (by omega) (λs h=>z s (eK _ h)) B.1);clear v m hn z x ox sx j l B u C
 go_enter func268,ntmps268
 go_wp2_with fail;refine T.mono ?_;rintro e u1 ⟨rfl,N,_⟩;rw[F.out]at N;have n:=aa (N.jump (hQ 26 3 c).1 (hQ 26 3 c).2.1 λev wb' hg=>oL u1 _ _ _ _ _ c wb' _ hg (by omega) 3);clear N T q0 q4 q5 m0;go_wp2_with fail;refine n.mono ?_;rintro e u2 ⟨jv,rfl,A,O,_⟩;obtain⟨b1,b2,b3,rfl,A⟩:=A;have H:=aa (JAt.b u2 K.m (c.words.length+1) _ 6 A);obtain⟨_,_,_,_,_,d5,_⟩:=cB (O.tree U.out b _ hb HN.out);have o:=aa (O.block U.out ha HA.out hf E.out (by omega) (by omega) (by rw[S];omega) D.out M.out);clear O A n;go_wp2_with fail;refine o.mono ?_;rintro e u3 ⟨rfl,y,Z⟩;have I:=aa (H.keeps Z);rw[G.out]at y;obtain⟨na,nc,n0⟩:=y.maker;have p:=aa (y.jump (gV 6 i).1 (gV 6 i).2.1 λev wb' hg=>l8 u3 _ _ _ _ _ i wb' _ hg (by omega) 6);clear y Z o d5;go_wp2_with fail;refine p.mono ?_;rintro e u4 ⟨a0,rfl,_,V,k4⟩;have J:=aa (I.keeps k4);have q:=aa (V.set (a:=i.words.length) (d:=g.words.length) (r:=6) (by omega) (by omega) (by omega));clear V k4 p n0;go_wp2_with fail;refine q.mono ?_;rintro e u5 ⟨rfl,W,k5⟩;have L:=aa (J.keeps k5);have t:=aa (W.here L.out (by omega) (by omega));clear W k5 q;go_wp2_with fail;refine t.mono ?_;rintro e u6 ⟨rfl,X,_⟩;have H6:=aa X;clear X t;go_wp2_with fail;go_end0;exact⟨rfl,by rw[HG.out];exact H6.out⟩
theorem GR.jumpE (h:GR K g wb eb w u) (hw:g.words.length<=700000000) (hlo:K.lo<=w.heap.size) (r:Int):
  ∃ev,u.cell? ⟨K.m,4,none⟩=some ev/\Calls prog 228 #[pB K.m,.int .i64 r] u.drew λe q=>∃jv,e=.returned jv/\q.cell? ⟨K.m,4,none⟩=some ev/\Hid (∃wb1 eb1 wv es,JAt q jv K.m g.words.length r K.lo/\GR K (fg r g) wb eb w q/\GI K q (fg r g) wb1 eb1/\Chg (GT K wb eb) w q/\(wb1=wb\/∀q,wb1=some q->w.heap.size<=q)/\(eb1=eb\/∀q,eb1=some q->w.heap.size<=q) /\
   q.heap[K.m]?=some (.cells #[wv,mP K.mf,.int .i64 K.bt,pB K.pl,ev,.bool (fg r g).bad] 332 (0,0))/\q.ownsRow 0 1 1 ev g.ends.length es/\ev.ownBlock=eb1/\ky q K.lo K.m es g.ends):=by
 have hd:GR K g wb eb w u.drew:=h.below (ai _ _).drew;obtain⟨c1,n,s,E,I,J⟩:=hd;obtain⟨ev,es,D,G,O,P⟩:=E.ex;obtain⟨S,l,_⟩:=D.ex;refine⟨ev,(ae l 4).trans rfl,?_⟩;refine(l8 u.drew _ _ _ _ _ g n _ D (by omega) r).mono ?_;rintro e q ⟨jv,rfl,Q,F⟩;have B:=F;obtain⟨_,R,y,_⟩:=F;obtain⟨T,A,_⟩:=y.ex;have N:GR K (fg r g) n s u.drew q:=E.of_words (gV r g).1 (gV r g).2.1 λd hg2=>by
  have:d=ev:=by
   obtain⟨o,p,_⟩:=hg2.ex;rw[l]at p;simp only[aq,Obj.cells.injEq,iF,fN,A9,true_and]at p;exact p.2.symm
  subst this;exact B
 have f:=GR.glue c1 I J N;have i:=f;obtain⟨c2,C,t,k,L,M⟩:=f;obtain⟨d,v,x,b,j,c⟩:=k.ex;obtain⟨o,a,_⟩:=x.ex;have H:d=ev:=by
  rw[A]at a;simp only[aq,Obj.cells.injEq,iF,fN,A9,true_and]at a;exact a.2.symm
 subst H;have z:(fg r g).ends=g.ends:=(gV r g).2.1;rw[z]at b c;exact⟨jv,rfl,(ae a 4).trans rfl,C,t,o,v,Q.low (by rw[show u.drew.heap.size=u.heap.size from rfl];exact ay hlo (ay h.1.size (ag _))),i,k,c2,L,M,a,b,j,c⟩
theorem Kh (fp:Bool):GSt K fp (.ret none):=by
 intro w g wb eb f b x i;have Q:=i.at';have hx:=i.w;have t:=i.sz;have R:=i.len;have B:=i.calls;have n:=i.ends;have hf:=i.fl;have o:=i.fn;rw[ci]at Q;unfold SmW at hx;rw[cP]at t R n;rw[bY]at B;obtain⟨hb,ln,hn⟩:=Q;obtain⟨q0,_,_,_,q4,_⟩:=cB hn;have HI:=aa x;have HN:=aa hn;rw[oSz]at R t n;rw[qC]at B;have v:=tJ K.E fp none g;rw[oSz]at v;have L2:=v.2;have y:=v.1;obtain⟨c,h⟩:∃c,cS K.E fp none g=c:=⟨_,rfl⟩;rw[h]at L2 y;have HG:=aa (show stG K.E fp (.ret none) g={ fg 6 c with ends:=c.ends++[c.words.length] } by rw[stG];simp only[h];rfl);have C:=o.c;have s:K.lo<=w.heap.size:=by obtain⟨z,M,P,_⟩:=x.ex;have:=P.l;have:=P.lt;omega
 have L:=aa (h▸((GR.start x).below (ai _ _).drew).ansN (p:=fp) (by omega));clear x i hn B o h v
 go_enter func268,ntmps268
 go_wp2_with fail
 go_still_tail 9,(by kernel_rfl)
 change wpList _ _ _ _ _ w.drew;go_wp2_with fail;refine L.mono ?_;rintro e u1 ⟨rfl,N,_⟩;have L4:c.ends.length<=1000000:=by rw[y];omega
 clear y;obtain⟨z,m4,O⟩:=N.jumpE (by omega) s 6;have HE:=aa O;obtain⟨i0,ii,D,E,F⟩:=cX Tryz.info1;clear N O L q0 q4 C;go_wp2_with fail
 go_region_law (first
  | (go_simp;go_at_call 228;refine HE.mono ?_;rintro e q ⟨jv,rfl,g0,k⟩;obtain⟨a4,a1,wv,M,r0,r2,T,U,V,W,X,Y,Z,u⟩:=k.out;obtain⟨G,H,I,rfl,r⟩:=r0;have S:=JAt.b q K.m c.words.length K.lo 6 r;have a:=aa (And.intro S (And.intro T (And.intro U (And.intro V (And.intro W (And.intro X (And.intro Y (And.intro Z u))))))));have a3:=aH g0;clear S r r2 T U V W X Y Z u k)
  | (refine step_append_lies _ (by rfl) _ _ _ (by rfl) 0 1 i0 _ 1 8 underlying330 ii D E F rfl (by omega) z c.ends.length M (by rfl) (a.out.2.2.2.2.2.2.1.alloc _) ⟨q.heap.size,0,none⟩ 1 1 [.func (.func 254) #[] #[pB G,pB H,pB I]] (by rfl) (by rfl) (eu q _ _) (by simp[Value.oneCell']) (by omega) (by unfold maxLen;omega) (by omega) (by omega) (q.heap.size+1) (by simp) ?_;intro gg a0 J m d A a2;have l:=vA a.out.2.1 a.out.2.2.2.2.2.1 a.out.2.2.2.2.2.2.2.1 d;have k0:J.cell? ⟨K.m,4,none⟩=some z:=(ae l 4).trans rfl;have kf:J.frozen? ⟨K.m,4,none⟩=false:=aD J K.m 4 _ _ l;clear l))
 all_goals
  have j:=aa (GR.glue a.out.2.2.1 a.out.2.2.2.1 a.out.2.2.2.2.1 (GI.addEnd a.out.2.1 a.out.2.2.2.2.2.1 (by rw[(gV 6 c).2.1];exact a.out.2.2.2.2.2.2.1) a.out.2.2.2.2.2.2.2.1 (by rw[(gV 6 c).2.1];exact a.out.2.2.2.2.2.2.2.2) a.out.1 d (by rw[(gV 6 c).2.1];exact m) A));rw[(gV 6 c).2.1]at j;go_simp;go_wp2_with fail;go_end0;exact⟨rfl,by rw[HG.out];exact j.out⟩
theorem Kg (fp:Bool) (r:Ex):GSt K fp (.ret (some r)):=by
 intro w g wb eb f b s i;have T:=i.at';have F:=i.w;have v:=i.sz;have U:=i.len;have A:=i.calls;have n:=i.ends;have hf:=i.fl;have o:=i.fn;rw[ci]at T;unfold SmW at F;rw[cP]at v U n;rw[bY]at A;obtain⟨hb,ln,rb,hn,x⟩:=T;obtain⟨q0,_,_,_,q4,_⟩:=cB hn;have HI:=aa s;have HN:=aa hn;rw[oSz]at U v n;rw[qC]at A;have z:=tJ K.E fp (some r) g;rw[oSz]at z;have L2:=z.2;have B:=z.1;obtain⟨c,h⟩:∃c,cS K.E fp (some r) g=c:=⟨_,rfl⟩;rw[h]at L2 B;have HG:=aa (show stG K.E fp (.ret (some r)) g={ fg 6 c with ends:=c.ends++[c.words.length] } by rw[stG];simp only[h];rfl);have E:=o.c;have u:K.lo<=w.heap.size:=by obtain⟨C,P,S,_⟩:=s.ex;have:=S.l;have:=S.lt;omega
 have O:=aa (h▸((GR.start s).below (ai _ _).drew).ansS (p:=fp) s x (by omega) (by omega) A F);clear s i hn A x F o h z
 go_enter func268,ntmps268
 go_wp2_with fail
 go_still_tail 9,(by kernel_rfl)
 change wpList _ _ _ _ _ w.drew;go_wp2_with fail;refine O.mono ?_;rintro e u1 ⟨rfl,Q,_⟩;have L4:c.ends.length<=1000000:=by rw[B];omega
 clear B;obtain⟨C,m4,R⟩:=Q.jumpE (by omega) u 6;have HE:=aa R;obtain⟨i0,ii,G,H,I⟩:=cX Tryz.info1;clear Q R O q0 q4 E;go_wp2_with fail
 go_region_law (first
  | (go_simp;go_at_call 228;refine HE.mono ?_;rintro e q ⟨jv,rfl,g0,k⟩;obtain⟨a4,a1,wv,P,r0,r2,W,X,Y,Z,r7,r8,r9,y⟩:=k.out;obtain⟨J,L,M,rfl,t⟩:=r0;have V:=JAt.b q K.m c.words.length K.lo 6 t;have a:=aa (And.intro V (And.intro W (And.intro X (And.intro Y (And.intro Z (And.intro r7 (And.intro r8 (And.intro r9 y))))))));have a3:=aH g0;clear V t r2 W X Y Z r7 r8 r9 y k)
  | (refine step_append_lies _ (by rfl) _ _ _ (by rfl) 0 1 i0 _ 1 8 underlying330 ii G H I rfl (by omega) C c.ends.length P (by rfl) (a.out.2.2.2.2.2.2.1.alloc _) ⟨q.heap.size,0,none⟩ 1 1 [.func (.func 254) #[] #[pB J,pB L,pB M]] (by rfl) (by rfl) (eu q _ _) (by simp[Value.oneCell']) (by omega) (by unfold maxLen;omega) (by omega) (by omega) (q.heap.size+1) (by simp) ?_;intro gg a0 N m d D a2;have l:=vA a.out.2.1 a.out.2.2.2.2.2.1 a.out.2.2.2.2.2.2.2.1 d;have k0:N.cell? ⟨K.m,4,none⟩=some C:=(ae l 4).trans rfl;have kf:N.frozen? ⟨K.m,4,none⟩=false:=aD N K.m 4 _ _ l;clear l))
 all_goals
  have j:=aa (GR.glue a.out.2.2.1 a.out.2.2.2.1 a.out.2.2.2.2.1 (GI.addEnd a.out.2.1 a.out.2.2.2.2.2.1 (by rw[(gV 6 c).2.1];exact a.out.2.2.2.2.2.2.1) a.out.2.2.2.2.2.2.2.1 (by rw[(gV 6 c).2.1];exact a.out.2.2.2.2.2.2.2.2) a.out.1 d (by rw[(gV 6 c).2.1];exact m) D));rw[(gV 6 c).2.1]at j;go_simp;go_wp2_with fail;go_end0;exact⟨rfl,by rw[HG.out];exact j.out⟩
mutual
theorem Je (fp:Bool):∀x:Sm,GSt K fp x
 | .var n true none=>Kd fp n
 | .var n false none=>Kf fp n
 | .var n p (some r)=>Ke fp n p r
 | .set n r=>LP fp n r
 | .cell l r=>Kj fp l r
 | .iff r a c=>LR fp r a c (oh fp a (nU fp a)) (oh fp c (nU fp c))
 | .whl r a=>LO fp r a (oh fp a (nU fp a))
 | .out r=>LQ fp r
 | .free r=>Ki fp r
 | .drain=>Il fp
 | .ret none=>Kh fp
 | .ret (some r)=>Kg fp r
 | .call r=>Kk fp r
theorem nU (fp:Bool):∀(l:List Sm),∀x∈l,GSt K fp x
 | []=>λx h=>by cases h
 | y::l=>λx h=>by
  have a:=Je fp y;have b:=nU fp l;rcases aR.1 h with rfl|h
  ·exact a
  ·exact b x h
end
theorem Jh (fp:Bool) (l:List Sm):GBl K fp l:=oh fp l (nU fp l)
theorem EP (w:World) (A:Nat->Prop):jU w A bX []:=⟨[],⟨bq _ _ _ _,λg hg=>by cases hg⟩,by rw[cu];trivial⟩
theorem EI {x:Sm} (h:ci w A b x):A b/\∃k0 nm p lv rv xv yv ln,w.heap[b]?=some (stC k0 nm p lv rv xv yv ln)/\jU w A xv (stA x)/\jU w A yv (stB x)/\((k0=1/\A5 x=[⟨nm,p⟩])\/((k0==1)=false/\A5 x=[])):=by
 have c:=EP w A;cases x with
 | var n p r =>
  cases r with
  | none=>rw[ci]at h;obtain⟨a,ln,h⟩:=h;exact⟨a,_,_,_,_,_,_,_,_,h,c,c,.inl ⟨rfl,rfl⟩⟩
  | some r=>rw[ci]at h;obtain⟨a,ln,d,h,_⟩:=h;exact⟨a,_,_,_,_,_,_,_,_,h,c,c,.inl ⟨rfl,rfl⟩⟩
 | set n r=>rw[ci]at h;obtain⟨a,ln,d,h,_⟩:=h;exact⟨a,_,_,_,_,_,_,_,_,h,c,c,.inr ⟨rfl,rfl⟩⟩
 | cell l r=>rw[ci]at h;obtain⟨a,ln,q,d,h,_⟩:=h;exact⟨a,_,_,_,_,_,_,_,_,h,c,c,.inr ⟨rfl,rfl⟩⟩
 | iff r x y=>rw[ci]at h;obtain⟨a,ln,d,o,s,e,f,h,j,i,g,m,k⟩:=h;exact⟨a,_,_,_,_,_,_,_,_,h,⟨e,i,g⟩,⟨f,m,k⟩,.inr ⟨rfl,rfl⟩⟩
 | whl r x=>rw[ci]at h;obtain⟨a,ln,d,o,e,h,j,i,g⟩:=h;exact⟨a,_,_,_,_,_,_,_,_,h,⟨e,i,g⟩,c,.inr ⟨rfl,rfl⟩⟩
 | out r=>rw[ci]at h;obtain⟨a,ln,d,h,_⟩:=h;exact⟨a,_,_,_,_,_,_,_,_,h,c,c,.inr ⟨rfl,rfl⟩⟩
 | free r=>rw[ci]at h;obtain⟨a,ln,d,h,_⟩:=h;exact⟨a,_,_,_,_,_,_,_,_,h,c,c,.inr ⟨rfl,rfl⟩⟩
 | drain=>rw[ci]at h;obtain⟨a,ln,h⟩:=h;exact⟨a,_,_,_,_,_,_,_,_,h,c,c,.inr ⟨rfl,rfl⟩⟩
 | ret r =>
  cases r with
  | none=>rw[ci]at h;obtain⟨a,ln,h⟩:=h;exact⟨a,_,_,_,_,_,_,_,_,h,c,c,.inr ⟨rfl,rfl⟩⟩
  | some r=>rw[ci]at h;obtain⟨a,ln,d,h,_⟩:=h;exact⟨a,_,_,_,_,_,_,_,_,h,c,c,.inr ⟨rfl,rfl⟩⟩
 | call r=>rw[ci]at h;obtain⟨a,ln,d,h,_⟩:=h;exact⟨a,_,_,_,_,_,_,_,_,h,c,c,.inr ⟨rfl,rfl⟩⟩
structure Sl (w:World) (B1 B2 B3 lo:Nat) (v:Value) (ps:List Par) (k:Nat):Prop where
 b1:One w B1 (.int .i64 k) 3
 b2:One w B2 v 133
 b3:One w B3 (.func (.func 266) #[] #[pB B1,pB B2,pB B3]) 143
 own:w.ownsRow lo 140 2 v ps.length (bE ps)
 l:lo<=B1/\lo<=B2/\lo<=B3
def jE (B3 lo:Nat):Nat->Prop:=λi=>lo<=i/\¬i=B3
variable {w w':World} {B1 B2 B3 lo:Nat} {v:Value} {ps:List Par} {k:Nat}
theorem Cw {a:Nat} {T U:TypeId} (ha:One u a x T) (hb:One u b y U) (hT:T≠U):¬a=b:=eU ha hb hT
theorem Sl.ne (h:Sl w B1 B2 B3 lo v ps k):¬B1=B2/\¬B1=B3/\¬B2=B3/\∀g,v.ownBlock=some g->¬g=B1/\¬g=B2/\¬g=B3:=by
 refine⟨Cw h.b1 h.b2 (by decide),Cw h.b1 h.b3 (by decide),Cw h.b2 h.b3 (by decide),λg hg=>?_⟩;obtain⟨b,c,a⟩:=bG h.own hg;exact⟨eU a h.b1 (by decide),eU a h.b2 (by decide),eU a h.b3 (by decide)⟩
theorem Sl.below (h:Sl w B1 B2 B3 lo v ps k) (hb:Below w.heap.size w w'):Sl w' B1 B2 B3 lo v ps k:=
 ⟨h.b1.below hb,h.b2.below hb,h.b3.below hb,aY h.own (Chg.of_below (S:=λ_=>False) hb) λ_ _=>id,h.l⟩
theorem Sl.down (h:Sl w B1 B2 B3 lo v ps k) (k':Nat):Sl (w.setCell ⟨B1,0,none⟩ (.int .i64 k')) B1 B2 B3 lo v ps k':=by
 obtain⟨a,b,d,c⟩:=h.ne;exact⟨aA (j:=0) h.b1 _,h.b2.setOther (p:=⟨B1,0,none⟩) a _,h.b3.setOther (p:=⟨B1,0,none⟩) b _,gX h.own (p:=⟨B1,0,none⟩) (λg hg=>(c g hg).1) _,h.l⟩
theorem Sl.app {p:Par} {gg cap:Nat} (h:Sl w B1 B2 B3 lo v ps k) (hg:(w.alloc (.cells #[.string ⟨p.name.toArray⟩,.bool p.ptr] 140)).grownBy w1 v.ownBlock)
 (hown:w1.ownsRow lo 140 2 (.slice (some ⟨gg,0,none⟩) (ps.length+1) cap) (ps.length+1) (bE ps++[.string ⟨p.name.toArray⟩,.bool p.ptr])) (hlo:lo<=w.heap.size) (hat:v.ownBlock=some gg\/gg=w.heap.size+1):
  (w1.cell? ⟨B2,0,none⟩=some v/\w1.frozen? ⟨B2,0,none⟩=false)/\Sl (w1.setCell ⟨B2,0,none⟩ (.slice (some ⟨gg,0,none⟩) (ps.length+1) cap)) B1 B2 B3 lo (.slice (some ⟨gg,0,none⟩) (ps.length+1) cap) (ps++[p]) k/\Chg (jE B3 lo) w (w1.setCell ⟨B2,0,none⟩ (.slice (some ⟨gg,0,none⟩) (ps.length+1) cap)):=by
 obtain⟨l,o,g,a⟩:=h.ne;have b:Chg (λi=>v.ownBlock=some i) w w1:=((Chg.refl _ _).alloc _).grown hg λk hk _=>hk;have m:=h.b1.chg b λe=>(a _ e).1 rfl;have d:=h.b2.chg b λe=>(a _ e).2.1 rfl;have n:=h.b3.chg b λe=>(a _ e).2.2 rfl;have c:¬gg=B2:=by
  rcases hat with f|f
  ·exact(a gg f).2.1
  ·have:=ab h.b2;omega
 refine⟨⟨d.c,aD w1 B2 0 _ _ d⟩,⟨m.setOther (p:=⟨B2,0,none⟩) (iq l) _,aA (j:=0) d _,n.setOther (p:=⟨B2,0,none⟩) g _,?_,h.l⟩,?_⟩
 ·rw[ac,nJ]
  exact gX hown (p:=⟨B2,0,none⟩) (λx hx=>by injection hx with hx;subst hx;exact c) _
 ·exact(b.mono (S':=jE B3 lo) λi _ hi=>⟨cG h.own i hi,(a i hi).2.2⟩).setCell (p:=⟨B2,0,none⟩) (λ_=>⟨h.l.2.1,g⟩) _
def D9 (B1 B2 B3 lo:Nat) (ps:List Par) (k:Nat) (l:List Sm) (w:World) (e:Ending) (w':World):Prop:=e=.returned (.tuple #[])/\Chg (jE B3 lo) w w'/\∃v',Sl w' B1 B2 B3 lo v' (ps++(dH l k).1) (dH l k).2
def M5 (n:Nat):Prop:=∀(l:List Sm),bL l<=n->∀w B1 B2 B3 lo v ps k vx,Sl w B1 B2 B3 lo v ps k->jU w (Lt lo) vx l->lo<=w.heap.size->ps.length+bL l<=1000000->k<=65536 ->
 Calls prog 266 #[vx,pB B1,pB B2,pB B3] w (D9 B1 B2 B3 lo ps k l w)
def SlL (B1 B2 B3 lo:Nat) (ps:List Par) (k:Nat) (l:List Sm) (w:World) (j:Nat) (wr:World):Prop:=Chg (jE B3 lo) w wr/\∃qs kj v,Sl wr B1 B2 B3 lo v (ps++qs) kj/\SlR l k j qs kj
theorem jE.tree {B3 lo:Nat} {w':World} (h:Chg (jE B3 lo) w w'):aX (Lt lo) w w':=h.sameOn λi hi hs=>by have:=hs.1;have:i<lo:=hi;omega
theorem Sl.left (h:Sl w B1 B2 B3 lo v ps k):w.cell? ⟨B1,0,none⟩=some (.int .i64 k):=h.b1.c
theorem J9 (n:Nat):M5 n:=by
 induction n using Nat.strongRecOn with
 | _ n ih =>
 intro l hl w d i C lo v Z k vx hs hv V b2 hk;obtain⟨t,ho,o⟩:=hv;obtain⟨xa,xn,xc,au⟩:=bD ho.1;have aJ:xn=t.length:=gx ho.1 au;subst aJ;have a7:=sw o;have HO:=aa ho;have av:=aa o;have a2:=aa ih;have b0:t.length<=1000000:=by have:=xi l;omega
 have an:=aa (show SlL d i C lo Z k l w 0 w from⟨Chg.refl _ _,[],k,v,by rw[bo];exact hs,SlR.start l k⟩);have am:=aa a7;obtain⟨i0,hi,aK,aL,aM⟩:=cX Tryz.info140;clear hs ho o ih a7;subst au
 go_enter func266,ntmps266
 go_wp2_with fail
 go_loopw [6,9] (λ_ s9 wr=>∃j:Nat,s9=.int .i64 j/\j<=t.length/\Hid (SlL d i C lo Z k l w j wr)) (λ_ s9 _=>match s9 with | .int _ j=>t.length-j.toNat|_=>0)
 case atStart=>exact⟨0,rfl,aV _,an⟩
 case round =>
  clear an
  rename World=>w5
  obtain⟨j,rfl,hj,hr⟩:=hrel;obtain⟨f,qs,kj,v5,G,hR⟩:=hr.out;clear hr
  by_cases hlt:j<t.length
  ·have q:=HO.on (jE.tree f)
   obtain⟨xg,a,A⟩:∃xg a,(.slice xa t.length xc:Value)=.slice (some ⟨xg,0,none⟩) t.length a:=by
    rcases q.1.2 with⟨_,h0⟩|⟨xg,a,aS,A,_⟩
    ·omega
    ·exact⟨xg,a,A⟩
   have aI:xa=some ⟨xg,0,none⟩:=by injection A
   obtain⟨H,x,a3,Y,ah,a4⟩:=Bv av.out hlt;have ax:w5.cell? ⟨xg,j,none⟩=some (pB H):=by
    rw[(A▸q.1:w5.ownsRow 0 195 1 (.slice (some ⟨xg,0,none⟩) t.length a) t.length (t.map pB)).cellAt j (by omega),aG,a3];rfl
   subst aI;have aq:decide ((j:Int)<(t.length:Int))=true:=by simp;omega
   have a8:t.length-((j:Int)+1).toNat<t.length-(j:Int).toNat:=ee hlt;have aZ:kj<=65536:=ay hR.2.2 hk;have d0:=G.left;have aP:=aa f
   by_cases h0:kj=0
   ·subst h0
    have aT:w5.cell? ⟨d,0,none⟩=some (.int .i64 0):=d0;have M:=aa (show D9 d i C lo Z k l w (.returned (.tuple #[])) w5 from⟨rfl,f,v5,by rw[hR.zero (by rw[am.out];exact hlt)];exact G⟩);clear q A a3 Y ah a4 f G hR d0;go_wp2_with fail;go_end0;exact M.out
   ·obtain⟨m,hm⟩:∃m,kj=m+1:=⟨kj-1,by omega⟩
    have ab:SlR l k j qs (m+1):=hm▸hR;obtain⟨hN,hz⟩:=ab.next Y;have b1:=sD x;have b3:=yp x;have b4:cP x<=bL l:=by omega
    obtain⟨B,k0,nm,p,lv,rv,xv,yv,ln,g,aj,ak,ad⟩:=EI a4;have O:=aa g;have ao:=aa aj;have ap:=aa ak;have HN:=aa hN;have H5:=aa G;have aU:((kj:Int)==0)=false:=by simp;omega
    have ar:=aD w5 d 0 _ _ G.b1;obtain⟨q0,q1,q2,_,_,_,_⟩:=cB (jE.tree f H _ B g);have aO:¬H=d:=by have:=G.l.1;have:H<lo:=B;omega
    have aC:(kj:Int)-1=(m:Int):=by omega
    have aQ:=aa aC;have HX:=aa Y;have a0:=aa (G.down m);have L:=aa (f.setCell (p:=⟨d,0,none⟩) (λ_=>⟨G.l.1,G.ne.2.1⟩) (.int .i64 m));have aY:1<=kj:=by omega
    rcases ad with⟨rfl,r⟩|⟨aW,r⟩
    ·have D:=aa r
     clear q A a3 Y ah a4 f G hR ab hN g aj ak r;go_wp2_with fail;have H6:=aa (show Sl (w5.setCell ⟨d,0,none⟩ (.int .i64 m)) d i C lo v5 (Z++qs) m from a0.out);have K:=L;generalize aE:w5.setCell ⟨d,0,none⟩ (.int .i64 m)=w6 at H6 K;clear aE L a0 q0 q1 q2 d0 ar;obtain⟨_,q1,q2,_,_,_,_⟩:=cB (jE.tree K.out H _ B O.out);have c0:=H6.b2.c;have l0:=aH c0;have l1:=aH q1;have aA:lo<=w6.heap.size:=ay V K.size;have aB:(Z++qs).length<=1000000:=by rw[ac];omega
     obtain⟨E,a9⟩:∃E,Z++qs=E:=⟨_,rfl⟩;rw[a9]at H6 aB;have aw:=aa a9;clear a9;have al:Hid (∀R a w1,(w6.drew.alloc (.cells #[.string ⟨nm.toArray⟩,.bool p] 140)).grownBy w1 v5.ownBlock->w1.ownsRow lo 140 2 (.slice (some ⟨R,0,none⟩) (E.length+1) a) (E.length+1) (bE E++[.string ⟨nm.toArray⟩,.bool p])->(v5.ownBlock=some R\/R=w6.heap.size+1) ->
       (w1.cell? ⟨i,0,none⟩=some v5/\w1.frozen? ⟨i,0,none⟩=false)/\Sl (w1.setCell ⟨i,0,none⟩ (.slice (some ⟨R,0,none⟩) (E.length+1) a)) d i C lo (.slice (some ⟨R,0,none⟩) (E.length+1) a) (E++[⟨nm,p⟩]) m/\Chg (jE C lo) w6.drew (w1.setCell ⟨i,0,none⟩ (.slice (some ⟨R,0,none⟩) (E.length+1) a))):=λR a w1 hg ho o=>(H6.below (ai _ _).drew).app (p:=⟨nm,p⟩) hg ho aA o
     have a5:Hid (∀v∈([.string ⟨nm.toArray⟩,.bool p]:List Value),v.oneCell'=true):=λv hv=>by
      simp only[aR,jG,or_false]at hv;rcases hv with h|h<;>(subst h;rfl)
     have a6:=aa H6.own
     go_region_law (first
      | (refine step_append_lies _ (by rfl) _ _ _ (by rfl) lo 140 i0 (.agg #[.string ⟨#[]⟩,.bool false]) 2 24 underlying133 hi aK aL aM rfl (by omega) v5 E.length (bE E) (by rfl) (a6.drew.alloc _) ⟨w6.heap.size,0,none⟩ 1 1 [.string ⟨nm.toArray⟩,.bool p] (by rfl) (by rfl) (eu w6.drew _ _) a5.out (by omega) (by unfold maxLen;omega) (by omega) (by simp;omega) (w6.heap.size+1) (by simp) ?_;intro R a w1 X U o aN;obtain⟨⟨k0,k1⟩,k2⟩:=al.out R a w1 U X o;have H7:=aa k2.1;have b:=aa (K.drew.then k2.2);clear k2 X U o))
     all_goals
      go_simp;obtain⟨F,u⟩:∃F,(Z++qs)++A5 x=F:=⟨_,rfl⟩;have s:=aa u;rw[show E++[⟨nm,p⟩]=F by rw[<- u,D.out,aw.out]]at H7;clear u;generalize af:w1.setCell ⟨i,0,none⟩ (.slice (some ⟨R,0,none⟩) (E.length+1) a)=w7 at b H7;generalize ae:(.slice (some ⟨R,0,none⟩) (E.length+1) a:Value)=v7 at H7;clear af ae al a5 a6 K H6 q1 q2 c0 k0 k1;have L7:=aa (show F.length+bL (stA x)<=1000000 by rw[<- s.out];simp only[ac];omega);have I:=aa (a2.out (bL (stA x)) (by omega) (stA x) (ag _) w7.drew d i C lo v7 F m xv (H7.below (ai _ _).drew) (by obtain⟨b7,o7,s7⟩:=ao.out;exact⟨b7,(o7.on (jE.tree b.out)).on (aX.below (ai _ _).drew),(s7.onA (jE.tree b.out)).onA (aX.below (ai _ _).drew)⟩) (ay V b.size) L7.out (by omega));have c5:w7.cell? ⟨H,5,none⟩=some xv:=(cB (jE.tree b.out H _ B O.out)).2.2.2.2.2.1;have c3:=H7.b3.c;go_wp2_with fail
      go_still_tail 5,(by kernel_rfl)
      change wpList _ _ _ _ _ w7.drew;go_wp2_with fail;refine I.mono ?_;rintro e u8 ⟨rfl,S,v8,h8⟩;obtain⟨m8,z⟩:∃m8,(dH (stA x) m).2=m8:=⟨_,rfl⟩;obtain⟨P8,y⟩:∃P8,F++(dH (stA x) m).1=P8:=⟨_,rfl⟩;rw[z,y]at h8;have N:=aa z;have P:=aa y;have H8:=aa h8;have c:=aa (b.drew.then S);clear S h8 z y c5 c3 I;have L8:=aa (show P8.length+bL (stB x)<=1000000 by
       have a1:=wl x m;rw[<- P.out,<- s.out];simp only[ac]at a1 ⊢;omega)
      have W:m8<=65536:=by have:=pY _ (stA x) m (ag _);rw[N.out]at this;omega
      have J:=aa (a2.out (bL (stB x)) (by omega) (stB x) (ag _) u8.drew d i C lo v8 P8 m8 yv (H8.below (ai _ _).drew) (by obtain⟨b7,o7,s7⟩:=ap.out;exact⟨b7,(o7.on (jE.tree c.out)).on (aX.below (ai _ _).drew),(s7.onA (jE.tree c.out)).onA (aX.below (ai _ _).drew)⟩) (ay V c.size) L8.out W);have c6:u8.cell? ⟨H,6,none⟩=some yv:=(cB (jE.tree c.out H _ B O.out)).2.2.2.2.2.2;have c3:=H8.b3.c;go_wp2_with fail
      go_still_tail 5,(by kernel_rfl)
      change wpList _ _ _ _ _ u8.drew;go_wp2_with fail;refine J.mono ?_;rintro e u9 ⟨rfl,T,v9,h9⟩;have Q:=aa (show SlL d i C lo Z k l w (j+1) u9 from⟨c.drew.then T,_,_,v9,by
       rw[N.out];rw[<- P.out,<- s.out]at h9
       simpa only[aF]using h9,HN.out⟩)
      clear T h9 c6 c3 J;go_wp2_with fail;exact⟨⟨j+1,by simp,hlt,Q⟩,a8⟩
    ·have D:=aa r
     clear q A a3 Y ah a4 f G hR ab hN g aj ak r
     go_upto_region 8 with fail
     obtain⟨F,u⟩:∃F,(Z++qs)++A5 x=F:=⟨_,rfl⟩;have s:=aa u;have H7:=aa (show Sl (w5.setCell ⟨d,0,none⟩ (.int .i64 m)) d i C lo v5 F m from by rw[<- u,D.out,bo];exact a0.out);clear u;generalize af:w5.setCell ⟨d,0,none⟩ (.int .i64 m)=w7 at L H7;obtain⟨v7,ae⟩:∃v7,v5=v7:=⟨_,rfl⟩;rw[ae]at H7;have b:=L;clear af L a0 q0 q1 q2 d0 ar D;have L7:=aa (show F.length+bL (stA x)<=1000000 by rw[<- s.out];simp only[ac];omega);have I:=aa (a2.out (bL (stA x)) (by omega) (stA x) (ag _) w7.drew d i C lo v7 F m xv (H7.below (ai _ _).drew) (by obtain⟨b7,o7,s7⟩:=ao.out;exact⟨b7,(o7.on (jE.tree b.out)).on (aX.below (ai _ _).drew),(s7.onA (jE.tree b.out)).onA (aX.below (ai _ _).drew)⟩) (ay V b.size) L7.out (by omega));have c5:w7.cell? ⟨H,5,none⟩=some xv:=(cB (jE.tree b.out H _ B O.out)).2.2.2.2.2.1;have c3:=H7.b3.c;go_wp2_with fail
     go_still_tail 5,(by kernel_rfl)
     change wpList _ _ _ _ _ w7.drew;go_wp2_with fail;refine I.mono ?_;rintro e u8 ⟨rfl,S,v8,h8⟩;obtain⟨m8,z⟩:∃m8,(dH (stA x) m).2=m8:=⟨_,rfl⟩;obtain⟨P8,y⟩:∃P8,F++(dH (stA x) m).1=P8:=⟨_,rfl⟩;rw[z,y]at h8;have N:=aa z;have P:=aa y;have H8:=aa h8;have c:=aa (b.drew.then S);clear S h8 z y c5 c3 I;have L8:=aa (show P8.length+bL (stB x)<=1000000 by
      have a1:=wl x m;rw[<- P.out,<- s.out];simp only[ac]at a1 ⊢;omega)
     have W:m8<=65536:=by have:=pY _ (stA x) m (ag _);rw[N.out]at this;omega
     have J:=aa (a2.out (bL (stB x)) (by omega) (stB x) (ag _) u8.drew d i C lo v8 P8 m8 yv (H8.below (ai _ _).drew) (by obtain⟨b7,o7,s7⟩:=ap.out;exact⟨b7,(o7.on (jE.tree c.out)).on (aX.below (ai _ _).drew),(s7.onA (jE.tree c.out)).onA (aX.below (ai _ _).drew)⟩) (ay V c.size) L8.out W);have c6:u8.cell? ⟨H,6,none⟩=some yv:=(cB (jE.tree c.out H _ B O.out)).2.2.2.2.2.2;have c3:=H8.b3.c;go_wp2_with fail
     go_still_tail 5,(by kernel_rfl)
     change wpList _ _ _ _ _ u8.drew;go_wp2_with fail;refine J.mono ?_;rintro e u9 ⟨rfl,T,v9,h9⟩;have Q:=aa (show SlL d i C lo Z k l w (j+1) u9 from⟨c.drew.then T,_,_,v9,by
      rw[N.out];rw[<- P.out,<- s.out]at h9
      simpa only[aF]using h9,HN.out⟩)
     clear T h9 c6 c3 J;go_wp2_with fail;exact⟨⟨j+1,by simp,hlt,Q⟩,a8⟩
  ·have az:j=t.length:=by omega
   have aq:decide ((j:Int)<(t.length:Int))=false:=by simp;omega
   have M:=aa (show D9 d i C lo Z k l w (.returned (.tuple #[])) w5 from⟨rfl,f,v5,by rw[hR.done (by rw[am.out];exact az)];exact G⟩);clear f G hR;go_wp2_with fail;go_end0;exact M.out
section
variable {P:Program}
theorem rl (w:World) (t ty e:TypeId) (i:TypeInfo) (z:Value) (size bytes:Nat) (ht:P.underlying t=some (.slice e)) (hi:P.info? e=some i) (hz:i.zero=some z)
 (hsize:i.size=size) (hby:i.bytes=bytes) (hzs:z.cells.size=size) (hsz:0<size) (b0:Nat) (xv:Value) (n:Nat) (xs:List Value) (h:w.ownsRow b0 e size xv n xs) (h1:∀u∈xs,u.oneCell'=true) (h63:n<=maxLen) (hbytes:n*bytes<=140737488355328):
  ∃v' w',(Builtin.append_ #[t,t] ty #[.slice none 0 0,xv]).run P w=.ok v' w'/\w'.ownsRow w.heap.size e size v' n xs/\Below w.heap.size w w':=by
 rcases h.2 with⟨rfl,rfl⟩|⟨g,a,f,rfl,j,r,o,l,m,c⟩
 ·have q:xs=[]:=List.eq_nil_of_length_eq_zero (by simpa using h.1)
  subst q;refine⟨.slice none 0 0,w,?_,bq w _ e size,ai _ _⟩;simp[Builtin.append_,run_underlying ht,sizeOf,typeInfo,hi,Builtin.lenOf,Builtin.firstCells,loadCells,loadCellsFrom]
 ·obtain⟨v',w',p,d,b,_,_⟩:=run_append_own_at (P:=P) w w.heap.size t ty e i z size bytes ht hi hz hsize hby hzs hsz (.slice none 0 0) 0 [] (bq w _ e size) ⟨g,0,none⟩ n a xs h.1 (h.cells rfl) h1 (by omega) (by rw[cA];exact hbytes) (ag _)
  rw[cA,bh]at d;exact⟨v',w',p,d,(ai _ _).grown b (ag _) λk hk=>by cases hk⟩
theorem ou {ops:Array Oper} {rest:List Oper} {o:Oper} {a:Act} {Q:Exit->Act->World->Prop} (hgd:o.guard=none) (s x:Operand) (t:TypeId)
 (ho:o.op=.call { callee:=.builtin .append,args:=#[s,x],argTypes:=#[t,t] })
 (e:TypeId) (i:TypeInfo) (z:Value) (size bytes:Nat) (ht:P.underlying t=some (.slice e)) (hi:P.info? e=some i) (hz:i.zero=some z)
 (hsize:i.size=size) (hby:i.bytes=bytes) (hzs:z.cells.size=size) (hsz:0<size) (hs:a.eval s=.slice none 0 0)
 (b0:Nat) (xv:Value) (n:Nat) (xs:List Value) (hx:a.eval x=xv) (hrow:w.ownsRow b0 e size xv n xs) (h1:∀u∈xs,u.oneCell'=true) (h63:n<=maxLen) (hbytes:n*bytes<=140737488355328)
 (h:∀v' w',w'.ownsRow w.heap.size e size v' n xs->Below w.heap.size w w'->wpList P ops Q rest (a.put o.dst v') w'):wpList P ops Q (o::rest) a w:=by
 refine wpList_plain hgd λK hK=>?_;obtain⟨v',w',d,b,c⟩:=rl (P:=P) w t o.type e i z size bytes ht hi hz hsize hby hzs hsz b0 xv n xs hrow h1 h63 hbytes;unfold Oper.wp execOp;simp only[ho,resolve,invoke,builtin,jX,Sem.run_pure,vT,tM,dX,kW,hs,hx,d];exact hK _ _ (h v' w' b c)
end
theorem sU (h:w.heap.size=b):(w.alloc o).heap[b]?=some o:=by subst h;exact af _ _
theorem Gs {o2:Obj} (h:w.heap.size=b):((w.alloc o).alloc o2).heap[b]?=some o:=by
 subst h;exact(dF (w.alloc o) o2 (r:=w.heap.size) (by simp)).trans (af _ _)
theorem ID (ps:List Par):∀u∈bE ps,u.oneCell'=true:=λu hu=>by
 unfold bE at hu;obtain⟨p,_,a⟩:=List.mem_flatMap.1 hu;simp only[aR,jG,or_false]at a;rcases a with h|h<;>(subst h;rfl)
theorem BQ (w:World) (fb lo:Nat) (f:Fun) (vp vb:Value) (ln:Int) (hn:w.heap[fb]?=some (fnC f.name vp f.ptr vb ln)) (hp:Ec w (Lt lo) vp f.params) (hb:jU w (Lt lo) vb f.body) (hlo:lo<=w.heap.size) (hfb:fb<lo) (hs:f.params.length+bL f.body<=1000000):
  Calls prog 255 #[pB fb] w λe w'=>∃v',e=.returned v'/\w'.ownsRow w.heap.size 140 2 v' (bQ f).length (bE (bQ f))/\Below w.heap.size w w':=by
 have c1:w.cell? ⟨fb,1,none⟩=some vp:=(ae hn 1).trans rfl;obtain⟨Q,T,R,v⟩:=bD hp.1;have J:=aa hp;have I:=aa hn;have H:=aa hb;obtain⟨P,t,A,B,C⟩:=cX Tryz.info140;clear hn hp hb;subst v
 go_enter func255,ntmps255
 go_wp2_with (at_builtin;refine ou (by rfl) _ _ _ (by rfl) 140 P (.agg #[.string ⟨#[]⟩,.bool false]) 2 24 underlying133 t A B C rfl (by omega) (by rfl) 0 (.slice Q T R) f.params.length (bE f.params) (by rfl) J.out.1 (ID _) (by unfold maxLen;omega) (by omega) ?_;intro Y d a n;obtain⟨F,D,G,rfl⟩:=bD a;have m:=aa a;have g:=aa n;clear a n)
 have c:=m.out;have y:D=f.params.length:=gS c rfl;generalize p:((d.alloc (.cells #[.slice F D G] 133)).alloc (.cells #[.int .i64 65536] 3)).alloc (.cells #[.func (.func 266) #[] #[pB (d.heap.size+1),pB d.heap.size,pB (d.heap.size+1+1)]] 143)=z;have h:Below d.heap.size d z:=by rw[<- p];exact((az).alloc (by simp) _).alloc (by simp;omega) _
 have o:=g.size;have b:Below w.heap.size w z:=g.trans (h.mono o);have s:Sl z (d.heap.size+1) d.heap.size (d.heap.size+1+1) w.heap.size (.slice F D G) f.params 65536:=by
  refine⟨?_,?_,?_,aY c (Chg.of_below (S:=λ_=>False) h) λ_ _=>id,by omega,by omega,by omega⟩
  ·rw[<- p];exact Gs (by simp)
  ·rw[<- p];exact(dF _ _ (by simp;omega)).trans (Gs rfl)
  ·rw[<- p];exact sU (by simp)
 have j:=aa (J9 (bL f.body) f.body (ag _) z.drew _ _ _ _ _ _ _ vb (s.below (ai _ _).drew) (by
  have N:jU w (Lt w.heap.size) vb f.body:=H.weak λk hk _=>hk;obtain⟨K,O,x⟩:=N;exact⟨K,(O.on (aX.below b)).on (aX.below (ai _ _).drew),(x.onA (aX.below b)).onA (aX.below (ai _ _).drew)⟩) b.size hs (ag _))
 have L:z.cell? ⟨fb,3,none⟩=some vb:=(b.cell (by show fb<_;omega)).trans ((ae I.out 3).trans rfl);have M:=s.b3.c;have r:=aa b;clear p h b s c g m c1 o y
 go_still_tail 5,(by kernel_rfl)
 change wpList _ _ _ _ _ z.drew;go_wp2_with fail;refine j.mono ?_;rintro e u ⟨rfl,E,Z,q⟩;obtain⟨U,W,V,rfl⟩:=bD q.own;have X:=q.b2.c;have l:=aa (show∃v',(Ending.returned (.slice U W V):Ending)=.returned v'/\u.ownsRow w.heap.size 140 2 v' (bQ f).length (bE (bQ f))/\Below w.heap.size w u from⟨_,rfl,q.own,E.below r.drew λi t=>t.1⟩);clear E q j L M;go_wp2_with fail;go_ret;exact l.out
end Go.Proofs.YtbeaaimcpkogcaaGreatDoor
