/- Lemmas on the way to the claim. -/
import Derived.Test.YtbeaaimcpkogcaaGreatDoorM35
set_option linter.unusedSimpArgs false
set_option linter.unusedVariables false
set_option maxHeartbeats 8000000
set_option maxRecDepth 100000
namespace Go.Proofs.YtbeaaimcpkogcaaGreatDoor
open Go.Proofs.Tryz Go.RowKit
variable {u w:World} {g g0:GS} {eb wb:Option Nat} {a b1 b2 b3 f k:Nat} {n r:Int} {t:Tx} {A:Nat->Prop} {fp:Bool}
variable {K:GC}
structure ExOk (K:GC) (w:World) (g:GS) (x:Ex) (k b:Nat):Prop where
 at':bK w (Lt K.lo) b x
 k:k+cN x<=1000000
 len:g.words.length+40*cN x<=700000000
 calls:∀s∈bn x,(K.E.funcs s).isSome
 w:ExW x
def GEx (K:GC) (x:Ex):Prop:=∀w g wb eb k b,GI K w g wb eb->ExOk K w g x k b->Calls prog 269 #[pB K.m,pB b,.int .i64 k] w (pA K (exG K.E x k g) wb eb w)
theorem GI.low (h:GI K w g wb eb):∀i,i<K.lo->¬GT K wb eb i:=h.ne.2.2.2.2.2.1
theorem GR.tree (h:GR K g wb eb w u) (hi:GI K w g0 wb eb):aX (Lt K.lo) w u:=h.1.sameOn λi hl hs=>hi.low i hl hs
section
variable {w u:World} {g g0:GS} {wb eb:Option Nat}
theorem GR.ex {x:Ex} {b:Nat} (h:GR K g wb eb w u) (hi:GI K w g0 wb eb) (hx:GEx K x) (ht:bK w (Lt K.lo) b x) (h1:k+cN x<=1000000) (h2:g.words.length+40*cN x<=700000000) (h3:∀s∈bn x,(K.E.funcs s).isSome) (h4:ExW x):
  Calls prog 269 #[pB K.m,pB b,.int .i64 k] u λe v=>e=.returned (.tuple #[])/\GR K (exG K.E x k g) wb eb w v/\gF u v:=
 h.call λwb' eb' hi'=>hx u g wb' eb' k b hi' ⟨ht.onA (h.tree hi),h1,h2,h3,h4⟩
theorem GR.callE {N:FuncId} {args:Array Value} {e0:Ending} {g':GS} (h:GR K g wb eb w u) (hc:∀wb' eb',GI K u g wb' eb'->Calls prog N args u λe v=>e=e0/\GR K g' wb' eb' u v):Calls prog N args u λe v=>e=e0/\GR K g' wb eb w v/\gF u v:=by
 obtain⟨b,wb',eb',i,j,k⟩:=h;refine(hc wb' eb' i).mono ?_;rintro e v ⟨rfl,q⟩;refine⟨rfl,?_,i.keeps q.1⟩;obtain⟨l,f,a,m,c,d⟩:=q;refine⟨GT.then b l j k,f,a,m,?_,?_⟩
 ·rcases c with rfl|c
  ·exact j
  ·exact .inr λq hq=>ay b.size (c q hq)
 ·rcases d with rfl|d
  ·exact k
  ·exact .inr λq hq=>ay b.size (d q hq)
theorem GR.keep {n:Nat} (h:GR K g wb eb w u) (hn:n<=1000000):Calls prog 275 #[pB K.m,.int .i64 n] u λe v=>e=.returned (.int .i64 (K.E.slot n))/\GR K (rq n g) wb eb w v/\gF u v:=
 h.callE λwb' eb' hi=>FA u g wb' eb' hi n hn
theorem GR.store (h:GR K g wb eb w u) (hw:g.words.length<=800000000) (ha:a<=9000000000000000000):Calls prog 256 #[pB K.m,.int .i64 r,.int .i64 a] u λe v=>e=.returned (.tuple #[])/\GR K (fF r a g) wb eb w v/\gF u v:=
 h.words (jg 24 r a g).1 (jg 24 r a g).2.1 λev wb' hg=>Bw u _ _ _ _ _ g wb' _ hg hw r a ha
theorem GR.load (h:GR K g wb eb w u) (hw:g.words.length<=800000000) (ha:a<=9000000000000000000):Calls prog 259 #[pB K.m,.int .i64 r,.int .i64 a] u λe v=>e=.returned (.tuple #[])/\GR K (mq r a g) wb eb w v/\gF u v:=
 h.words (jg 23 r a g).1 (jg 23 r a g).2.1 λev wb' hg=>Fs u _ _ _ _ _ g wb' _ hg hw r a ha
theorem GR.number (h:GR K g wb eb w u) (hw:g.words.length<=800000000) (h0:0<=n) (h1:n<4294967296):Calls prog 271 #[pB K.m,.int .i64 r,.int .u32 n] u λe v=>e=.returned (.tuple #[])/\GR K (ed r n g) wb eb w v/\gF u v:=
 h.words (qE r n g).1 (qE r n g).2.1 λev wb' hg=>oG u _ _ _ _ _ g wb' _ hg (by omega) r n h0 h1
theorem GR.shift {a b c:Int} (h:GR K g wb eb w u) (hw:g.words.length<=800000000) (h0:0<=n) (h1:n<4294967296):Calls prog 276 #[pB K.m,.int .i64 a,.int .i64 b,.int .i64 c,.int .i64 n] u λe v=>e=.returned (.tuple #[])/\GR K (eI a b c n g) wb eb w v/\gF u v:=
 h.words (lq a b c n g).1 (lq a b c n g).2.1 λev wb' hg=>BV u _ _ _ _ _ g wb' _ hg hw a b c n h0 h1
theorem GR.not (h:GR K g wb eb w u) (hw:g.words.length<=800000000):Calls prog 285 #[pB K.m] u λe v=>e=.returned (.tuple #[])/\GR K (oo g) wb eb w v/\gF u v:=
 h.words (lE g).1 (lE g).2.1 λev wb' hg=>IN u _ _ _ _ _ g wb' _ hg (by omega)
theorem GR.null (h:GR K g wb eb w u) (hw:g.words.length<=800000000):Calls prog 270 #[pB K.m,.int .i64 r] u λe v=>e=.returned (.tuple #[])/\GR K (pu r g) wb eb w v/\gF u v:=
 h.words (rm r g).1 (rm r g).2.1 λev wb' hg=>Fk u _ _ _ _ _ g wb' _ hg (by omega) r
theorem GR.service (h:GR K g wb eb w u) (hw:g.words.length<=800000000):Calls prog 229 #[pB K.m,.int .i64 n] u λe v=>e=.returned (.tuple #[])/\GR K (dt n g) wb eb w v/\gF u v:=
 h.words (oC n g).1 (oC n g).2.1 λev wb' hg=>qn u _ _ _ _ _ g wb' _ hg (by omega) n
theorem GR.emit {c n:Nat} {o:Obj} {l:List Ins} (h:GR K g wb eb w u) (hB:tP (u.alloc o) u.heap.size l) (hn:n=l.length) (hl:n<=10) (hw:g.words.length<=900000000):
  Calls prog 253 #[pB K.m,.slice (some ⟨u.heap.size,0,none⟩) n c] (u.alloc o) λe v=>e=.returned (.tuple #[])/\GR K (cL l g) wb eb w v/\gF u v:=by
 obtain⟨i,r,d,j,t,x⟩:=h;obtain⟨A,E,z,_⟩:=j.ex;refine((ep.start z).emit (c:=c) hB hn hl hw).mono ?_;rintro e v ⟨rfl,q⟩;have y:GR K (cL l g) r d u v:=j.of_words (gB l g).1 (gB l g).2.1 λev2 hg2=>by
  have:ev2=A:=by
   obtain⟨F,a,_⟩:=z.ex;obtain⟨D,b,_⟩:=hg2.ex;rw[a]at b;injection b with b;injection b with b _ _;simp only[iF,fN]at b;exact b.2.2.2.2.1.symm
  subst this;exact q
 refine⟨rfl,?_,j.keeps y.1⟩;obtain⟨B,s,f,C,k,p⟩:=y;refine⟨GT.then i B t x,s,f,C,?_,?_⟩
 ·rcases k with rfl|k
  ·exact t
  ·exact .inr λq hq=>ay i.size (k q hq)
 ·rcases p with rfl|p
  ·exact x
  ·exact .inr λq hq=>ay i.size (p q hq)
end
theorem cn {b:Nat} {k0:Int} {nm:Tx} {l r a:Value} {ln:Int} (h:w.heap[b]?=some (exC k0 n nm t l r a ln)):
  w.cell? ⟨b,0,none⟩=some (.int .i64 k0)/\w.cell? ⟨b,1,none⟩=some (.int .u32 n)/\w.cell? ⟨b,2,none⟩=some (.string ⟨nm.toArray⟩)/\w.cell? ⟨b,3,none⟩=some (.string ⟨t.toArray⟩)/\w.cell? ⟨b,4,none⟩=some l/\w.cell? ⟨b,5,none⟩=some r/\w.cell? ⟨b,6,none⟩=some a:=
 ⟨(ae h 0).trans rfl,(ae h 1).trans rfl,(ae h 2).trans rfl,(ae h 3).trans rfl,(ae h 4).trans rfl,(ae h 5).trans rfl,(ae h 6).trans rfl⟩
theorem Mi (n:Nat):GEx K (.num n):=by
 intro w g t p k b c a;have d:=a.at';have l:=a.w;rw[bK]at d;unfold ExW at l;obtain⟨q,s,hn⟩:=d;obtain⟨m,o,_⟩:=cn hn;have j:=a.len;have h:=aa ((GR.start c).number (r:=3) (n:=(n:Int)) (by omega) (by omega) (by omega));clear c a hn j
 go_enter func269,ntmps269
 go_wp2_with fail;refine h.mono ?_;rintro e u ⟨rfl,f,_⟩;have i:=aa f;clear f m o;go_wp2_with fail;go_end0;exact⟨rfl,by rw[exG];exact i.out⟩
theorem KQ (s:Tx):GEx K (.name s):=by
 intro w g S N k b d l;have B:=l.at';have D:=l.w;rw[bK]at B;unfold ExW at D;obtain⟨Q,R,hn⟩:=B;obtain⟨J,_,M,_⟩:=cn hn;have I:=l.len;obtain⟨P,O,z,_⟩:=d.ex;obtain⟨T,A,_⟩:=z.ex;have v:=d.pl;unfold oT at v;obtain⟨sz,L,y,i⟩:=d.names;have c:(Instr.lookup 110 (mP K.mn) (.string ⟨s.toArray⟩) false).run prog w.drew=.ok (.int .i64 (K.E.names s)) w.drew:=by
  have:=(y.below (ai _ _).drew).look2 (t:=110) underlying110 (Et _) D false;rw[i s]at this;exact this
 have o:w.cell? ⟨K.m,3,none⟩=some (pB K.pl):=(ae A 3).trans rfl;have x:w.cell? ⟨K.pl,2,none⟩=some (mP K.mn):=(ae v 2).trans rfl;have q:=d.bd.2.2.2.1 s;have n:=aa (((GR.start d).below (ai _ _).drew).load (r:=3) (a:=K.E.names s) (by omega) (by omega));obtain⟨m,f⟩:∃m,K.m=m:=⟨_,rfl⟩;obtain⟨F,j⟩:∃F,K.pl=F:=⟨_,rfl⟩;obtain⟨E,h⟩:∃E,K.mn=E:=⟨_,rfl⟩;obtain⟨a,p⟩:∃a,K.E.names s=a:=⟨_,rfl⟩;rw[f]at o n ⊢;rw[j]at o x;rw[h]at x c;rw[p]at c n;have G:=aa p;clear d l hn I z A v y i q f j h p
 go_enter func269,ntmps269
 go_wp2_with fail
 go_still_tail 13,(by kernel_rfl)
 change wpList _ _ _ _ _ w.drew;go_wp2_with fail;refine n.mono ?_;rintro e u ⟨rfl,C,_⟩;have H:=aa C;clear C J M o x c;go_wp2_with fail;go_end0;exact⟨rfl,by rw[exG,G.out];exact H.out⟩
variable {K:GC}
theorem sF {K:GC} {n:Nat} (h:K.E.base<=1000000000000/\K.E.count<=1000000) (hn:n<=1000000):K.E.slot n<=9000000000000000000:=by
 unfold GE.slot;omega
def re (E:GE) (l r:Ex) (k:Nat) (g:GS):GS:=mw E 4 k (exG E r (k+1) (lj E k (exG E l k g)))
theorem tG (E:GE) (l r:Ex) (k:Nat) (g:GS):(re E l r k g).words.length+16<=g.words.length+40*(cN l+cN r):=by
 have c:=dq E l k g;have a:=mD E k (exG E l k g);have d:=dq E r (k+1) (lj E k (exG E l k g));have b:=mJ E 4 k (exG E r (k+1) (lj E k (exG E l k g)));unfold re;omega
theorem tH (l r:Ex) (hl:GEx K l) (hr:GEx K r) (w:World) (g:GS) (wb eb:Option Nat) (k lb rb:Nat) (hi:GI K w g wb eb) (htl:bK w (Lt K.lo) lb l) (htr:bK w (Lt K.lo) rb r) (hk:k+cN l+cN r+1<=1000000) (hw:g.words.length+40*(cN l+cN r)<=700000000)
 (hcl:∀s∈bn l,(K.E.funcs s).isSome) (hcr:∀s∈bn r,(K.E.funcs s).isSome) (hwl:ExW l) (hwr:ExW r):
  Calls prog 280 #[pB K.m,pB lb,pB rb,.int .i64 k] w (pA K (re K.E l r k g) wb eb w):=by
 have F:=dq K.E l k g;have G:=mD K.E k (exG K.E l k g);have H:=dq K.E r (k+1) (lj K.E k (exG K.E l k g));have D:=aa hi;have p:=aa htr;have o:=aa hcr;have q:=aa hwr;have h:=aa (sF (n:=k) ⟨hi.bd.1,hi.bd.2.1⟩ (by omega));have t:=aa ((GR.start hi).ex hi hl htl (k:=k) (by omega) (by omega) hcl hwl);clear hi htl htr hcl hcr hwl hwr
 go_enter func280,ntmps280
 go_wp2_with fail;refine t.mono ?_;rintro e I ⟨rfl,u,_⟩;have b:=aa (u.keep (n:=k) (by omega));clear u t;go_wp2_with fail;refine b.mono ?_;rintro e J ⟨rfl,v,_⟩;have c:=aa (v.store (r:=3) (a:=K.E.slot k) (show(exG K.E l k g).words.length<=_ by omega) h.out);clear v b;go_wp2_with fail;refine c.mono ?_;rintro e B ⟨rfl,x,_⟩;have i:GR K (lj K.E k (exG K.E l k g)) wb eb w B:=x;have d:=aa (show Calls prog 269 #[pB K.m,pB rb,.int .i64 ((k:Int)+1)] B _ from i.ex D.out hr p.out (k:=k+1) (by omega) (by omega) o.out q.out);clear x i c;go_wp2_with fail;refine d.mono ?_;rintro e L ⟨rfl,y,_⟩;have f:=aa (y.keep (n:=k) (by omega));clear y d;go_wp2_with fail;refine f.mono ?_;rintro e M ⟨rfl,z,_⟩;have j:=aa (z.load (r:=4) (a:=K.E.slot k) (show(exG K.E r (k+1) (lj K.E k (exG K.E l k g))).words.length<=_ by omega) h.out);clear z f;go_wp2_with fail;refine j.mono ?_;rintro e N ⟨rfl,A,_⟩;have C:=aa A;clear A;go_wp2_with fail;go_end0;exact⟨rfl,C.out⟩
variable {K:GC}
theorem GR.here {l2:Nat} (h:GR K g wb eb w u) (hj:JAt u (.func (.func 254) #[] #[pB b1,pB b2,pB b3]) K.m a r l2) (hw:g.words.length<=800000000) (ha:a<=900000000):Calls prog 254 #[pB b1,pB b2,pB b3] u λe v=>e=.returned (.tuple #[])/\GR K (fG a r g) wb eb w v/\gF u v:=
 h.words (kK a r g).1 (kK a r g).2.1 λev wb' hg=>by
  obtain⟨c1,c2,c,e,b⟩:=zo u _ _ _ _ _ g wb' _ hg (by omega) _ a r l2 hj ha;simp only[Value.func.injEq,iF,fN,Value.pointer.injEq,aq,Addr.mk.injEq,A9,true_and]at e;obtain⟨rfl,rfl,rfl⟩:=e;exact b
theorem Ig (t:Tx) (r:Ex) (hr:GEx K r) (w:World) (g:GS) (wb eb:Option Nat) (k b:Nat) (rb:Nat) (ln:Int) (hi:GI K w g wb eb) (hb:b<K.lo) (hn:w.heap[b]?=some (exC 3 0 [] t (.pointer none) (pB rb) (.slice none 0 0) ln)) (htr:bK w (Lt K.lo) rb r) (hk:k+cN r<=1000000) (hw:g.words.length+40*cN r<=700000000) (hc:∀s∈bn r,(K.E.funcs s).isSome) (hwr:ExW r) (ht:t=rC\/t=g9):
  Calls prog 281 #[pB K.m,pB b,.int .i64 k] w (pA K (exG K.E (.un t r) k g) wb eb w):=by
 have A:=dq K.E r k g;obtain⟨_,_,_,_,p,q,_⟩:=cn hn;have j:=aa hi;have l:=aa hn;have h:=aa ((GR.start hi).ex hi hr htr (k:=k) hk hw hc hwr);clear hi hn htr hc hwr;rcases ht with rfl|rfl
 ·go_enter func281,ntmps281
  go_wp2_with fail;refine h.mono ?_;rintro e u ⟨rfl,d,_⟩;obtain⟨_,_,_,x,_⟩:=cn (d.tree j.out b _ hb l.out);have a:=aa (d.not (by omega));clear d h p q;go_wp2_with fail;refine a.mono ?_;rintro e y ⟨rfl,f,_⟩;have i:=aa f;clear f a;go_wp2_with fail;go_end0;exact⟨rfl,by rw[exG,ax rfl];exact i.out⟩
 ·go_enter func281,ntmps281
  go_wp2_with fail;refine h.mono ?_;rintro e u ⟨rfl,d,_⟩;obtain⟨_,_,_,x,_⟩:=cn (d.tree j.out b _ hb l.out);have v:=aa d;clear d h p q;go_wp2_with fail;refine(iB u 4 3 0 3).mono ?_;rintro e z ⟨rfl,o⟩;have a:=aa ((v.below o).emit (c:=1) (n:=1) (eG z 4 3 0 3 0) rfl (by omega) (by omega));clear o;go_wp2_with fail;refine a.mono ?_;rintro e y ⟨rfl,f,_⟩;have i:=aa f;clear f a;go_wp2_with fail;go_end0;exact⟨rfl,by rw[exG,ap (by decide)];exact i.out⟩
theorem BU (t:Tx) (l r:Ex) (hl:GEx K l) (hr:GEx K r) (w:World) (g:GS) (wb eb:Option Nat) (k b:Nat) (lb rb:Nat) (ln:Int) (hi:GI K w g wb eb) (hb:b<K.lo) (hn:w.heap[b]?=some (exC 3 0 [] t (pB lb) (pB rb) (.slice none 0 0) ln)) (htl:bK w (Lt K.lo) lb l) (htr:bK w (Lt K.lo) rb r) (hk:k+cN l+cN r+1<=1000000) (hw:g.words.length+40*(cN l+cN r)<=700000000)
 (hcl:∀s∈bn l,(K.E.funcs s).isSome) (hcr:∀s∈bn r,(K.E.funcs s).isSome) (hwl:ExW l) (hwr:ExW r) (ht:t=[38,38]\/t=[124,124]):
  Calls prog 286 #[pB K.m,pB b,.int .i64 k] w (pA K (exG K.E (.bin t l r) k g) wb eb w):=by
 obtain⟨x,p⟩:∃x:Int,(if t=[38,38]then 26 else 25)=x:=⟨_,rfl⟩;have L1:=dq K.E l k g;have L2:=(lE (exG K.E l k g)).2.2;have L3:=(lE (oo (exG K.E l k g))).2.2;obtain⟨a,u⟩:∃a,oo (oo (exG K.E l k g))=a:=⟨_,rfl⟩;rw[u]at L3;have L4:=(hQ x 3 a).2.2;have L5:=dq K.E r k (ce x 3 a);have L6:=(lE (exG K.E r k (ce x 3 a))).2.2;have L7:=(lE (oo (exG K.E r k (ce x 3 a)))).2.2;obtain⟨_,_,_,q3,q4,q5,_⟩:=cn hn;have HG:=aa (show exG K.E (.bin t l r) k g=fG (a.words.length+1) 6 (oo (oo (exG K.E r k (ce x 3 a)))) by rw[exG,ax ht];simp only[u,p]);have L:=aa u;have y:=aa hi;have I:=aa hn;have M:=aa htr;have J:=aa hcr;have N:=aa hwr;have Y:=aa ((GR.start hi).ex hi hl htl (k:=k) (by omega) (by omega) hcl hwl);clear hi hn htl htr hcl hcr hwl hwr u;rcases ht with rfl|rfl
 ·have q:x=26:=by rw[<- p];decide
  subst q;clear p
  go_enter func286,ntmps286
  go_wp2_with fail;refine Y.mono ?_;rintro e u1 ⟨rfl,D,_⟩;obtain⟨_,_,_,o,_⟩:=cn (D.tree y.out b _ hb I.out);have c:=aa (D.not (by omega));clear D Y q3 q4 q5 o;go_wp2_with fail;refine c.mono ?_;rintro e u2 ⟨rfl,F,_⟩;obtain⟨_,_,_,o,_⟩:=cn (F.tree y.out b _ hb I.out);have d:=aa (F.not (by omega));clear F c;go_wp2_with fail;refine d.mono ?_;rintro e u3 ⟨rfl,G,_⟩;rw[L.out]at G;have f:=aa (G.jump (hQ 26 3 a).1 (hQ 26 3 a).2.1 λev wb' hg=>oL u3 _ _ _ _ _ a wb' _ hg (by omega) 3);clear G d o;go_wp2_with fail;refine f.mono ?_;rintro e u4 ⟨jv,rfl,v,H,_⟩;obtain⟨O,P,Q,rfl,v⟩:=v;have z:=aa (show JAt u4 (.func (.func 254) #[] #[pB O,pB P,pB Q]) K.m (a.words.length+1) 6 _ from⟨O,P,Q,rfl,v⟩);obtain⟨_,_,_,o,_,d5,_⟩:=cn (H.tree y.out b _ hb I.out);have h:=aa (H.ex y.out hr M.out (k:=k) (by omega) (by omega) J.out N.out);clear H v f;go_wp2_with fail;refine h.mono ?_;rintro e u5 ⟨rfl,R,V⟩;have A:=aa (z.keeps V);have i:=aa (R.not (by omega));clear R V h o d5;go_wp2_with fail;refine i.mono ?_;rintro e u6 ⟨rfl,S,W⟩;have B:=aa (A.keeps W);have j:=aa (S.not (by omega));clear S W i;go_wp2_with fail;refine j.mono ?_;rintro e u7 ⟨rfl,T,X⟩;have C:=aa (B.keeps X);have n:=aa (T.here C.out (by omega) (by omega));clear T X j;go_wp2_with fail;refine n.mono ?_;rintro e u8 ⟨rfl,U,_⟩;have Z:=aa U;clear U n;go_wp2_with fail;go_end0;exact⟨rfl,by rw[HG.out];exact Z.out⟩
 ·have q:x=25:=by rw[<- p];decide
  subst q;clear p
  go_enter func286,ntmps286
  go_wp2_with fail;refine Y.mono ?_;rintro e u1 ⟨rfl,D,_⟩;obtain⟨_,_,_,o,_⟩:=cn (D.tree y.out b _ hb I.out);have c:=aa (D.not (by omega));clear D Y q3 q4 q5 o;go_wp2_with fail;refine c.mono ?_;rintro e u2 ⟨rfl,F,_⟩;obtain⟨_,_,_,o,_⟩:=cn (F.tree y.out b _ hb I.out);have d:=aa (F.not (by omega));clear F c;go_wp2_with fail;refine d.mono ?_;rintro e u3 ⟨rfl,G,_⟩;rw[L.out]at G;have f:=aa (G.jump (hQ 25 3 a).1 (hQ 25 3 a).2.1 λev wb' hg=>qR u3 _ _ _ _ _ a wb' _ hg (by omega) 3);clear G d o;go_wp2_with fail;refine f.mono ?_;rintro e u4 ⟨jv,rfl,v,H,_⟩;obtain⟨O,P,Q,rfl,v⟩:=v;have z:=aa (show JAt u4 (.func (.func 254) #[] #[pB O,pB P,pB Q]) K.m (a.words.length+1) 6 _ from⟨O,P,Q,rfl,v⟩);obtain⟨_,_,_,o,_,d5,_⟩:=cn (H.tree y.out b _ hb I.out);have h:=aa (H.ex y.out hr M.out (k:=k) (by omega) (by omega) J.out N.out);clear H v f;go_wp2_with fail;refine h.mono ?_;rintro e u5 ⟨rfl,R,V⟩;have A:=aa (z.keeps V);have i:=aa (R.not (by omega));clear R V h o d5;go_wp2_with fail;refine i.mono ?_;rintro e u6 ⟨rfl,S,W⟩;have B:=aa (A.keeps W);have j:=aa (S.not (by omega));clear S W i;go_wp2_with fail;refine j.mono ?_;rintro e u7 ⟨rfl,T,X⟩;have C:=aa (B.keeps X);have n:=aa (T.here C.out (by omega) (by omega));clear T X j;go_wp2_with fail;refine n.mono ?_;rintro e u8 ⟨rfl,U,_⟩;have Z:=aa U;clear U n;go_wp2_with fail;go_end0;exact⟨rfl,by rw[HG.out];exact Z.out⟩
variable {K:GC}
theorem JAt.b (u:World) (m a l:Nat) (r:Int) (h:One u b1 (pB m) 327/\One u b2 (.int .i64 a) 3/\One u b3 (.int .i64 r) 3/\l<=b1/\l<=b2/\l<=b3):JAt u (.func (.func 254) #[] #[pB b1,pB b2,pB b3]) m a r l:=⟨b1,b2,b3,rfl,h⟩
theorem Dg (l:Ex) (hl:GEx K l) (w:World) (g:GS) (wb eb:Option Nat) (k b:Nat) (lb:Nat) (ln:Int) (hi:GI K w g wb eb) (hn:w.heap[b]?=some (exC 7 0 [] [] (pB lb) (.pointer none) (.slice none 0 0) ln)) (htl:bK w (Lt K.lo) lb l) (hk:k+cN l<=1000000) (hw:g.words.length+40*cN l<=700000000) (hcl:∀s∈bn l,(K.E.funcs s).isSome) (hwl:ExW l):
  Calls prog 279 #[pB K.m,pB b,.int .i64 k] w (pA K (exG K.E (.new l) k g) wb eb w):=by
 have L1:=dq K.E l k g;have L2:=(lq 12 4 3 28 (exG K.E l k g)).2.2;obtain⟨d,h⟩:∃d,eI 12 4 3 28 (exG K.E l k g)=d:=⟨_,rfl⟩;rw[h]at L2;have L3:=(hQ 25 4 d).2.2;have L4:=(lq 11 10 3 4 (ce 25 4 d)).2.2;have L5:=(oC 1 (eI 11 10 3 4 (ce 25 4 d))).2.2;have L6:=(gB [⟨47,4,10,0,0⟩] (dt 1 (eI 11 10 3 4 (ce 25 4 d)))).2.2;obtain⟨f,i⟩:∃f,cL [⟨47,4,10,0,0⟩] (dt 1 (eI 11 10 3 4 (ce 25 4 d)))=f:=⟨_,rfl⟩;rw[i,My]at L6;have L7:=(hQ 25 4 f).2.2;have L8:=(kK (d.words.length+1) 6 (ce 25 4 f)).2.2;have L9:=(rm 10 (fG (d.words.length+1) 6 (ce 25 4 f))).2.2;have a0:=(kK (f.words.length+1) 6 (pu 10 (fG (d.words.length+1) 6 (ce 25 4 f)))).2.2;obtain⟨_,_,_,_,q4,_⟩:=cn hn;have HG:=aa (show exG K.E (.new l) k g=cL [⟨31,3,10,0,0⟩] (fG (f.words.length+1) 6 (pu 10 (fG (d.words.length+1) 6 (ce 25 4 f)))) by rw[exG];simp only[h,i]);have N:=aa h;have O:=aa i;have Z:=aa ((GR.start hi).ex hi hl htl (k:=k) (by omega) (by omega) hcl hwl);clear hi hn htl hcl hwl h i
 go_enter func279,ntmps279
 go_wp2_with fail;refine Z.mono ?_;rintro e u1 ⟨rfl,h1,_⟩;have q:=aa (h1.shift (a:=12) (b:=4) (c:=3) (n:=28) (by omega) (by omega) (by omega));clear h1 Z q4;go_wp2_with fail;refine q.mono ?_;rintro e u2 ⟨rfl,V,_⟩;rw[N.out]at V;have t:=aa (V.jump (hQ 25 4 d).1 (hQ 25 4 d).2.1 λev wb' hg=>qR u2 _ _ _ _ _ d wb' _ hg (by omega) 4);clear V q;go_wp2_with fail;refine t.mono ?_;rintro e u3 ⟨jv,rfl,G,h3,_⟩;obtain⟨b1,b2,b3,rfl,G⟩:=G;have P:=aa (JAt.b u3 K.m (d.words.length+1) _ 6 G);have u:=aa (h3.shift (a:=11) (b:=10) (c:=3) (n:=4) (by omega) (by omega) (by omega));clear h3 G t;go_wp2_with fail;refine u.mono ?_;rintro e u4 ⟨rfl,h4,k4⟩;have Q:=aa (P.keeps k4);have v:=aa (h4.service (n:=1) (by omega));clear h4 k4 u;go_wp2_with fail;refine v.mono ?_;rintro e u5 ⟨rfl,h5,k5⟩;have R:=aa (Q.keeps k5);have H5:=aa h5;clear h5 k5 v;go_wp2_with fail;refine(iB u5 47 4 10 0).mono ?_;rintro e z ⟨rfl,X⟩;have U:=aa (R.keeps (gF.of_below X));have x:=aa ((H5.below X).emit (c:=1) (n:=1) (eG z 47 4 10 0 0) rfl (by omega) (by omega));clear X;go_wp2_with fail;refine x.mono ?_;rintro e u6 ⟨rfl,W,k6⟩;have S:=aa (U.keeps k6);rw[O.out]at W;have A:=aa (W.jump (hQ 25 4 f).1 (hQ 25 4 f).2.1 λev wb' hg=>qR u6 _ _ _ _ _ f wb' _ hg (by omega) 4);clear W k6 x;go_wp2_with fail;refine A.mono ?_;rintro e u7 ⟨a1,rfl,j,h7,k7⟩;obtain⟨d1,d2,d3,rfl,j⟩:=j;have T:=aa (S.keeps k7);have J:=aa (JAt.b u7 K.m (f.words.length+1) _ 6 j);have B:=aa (h7.here T.out (by omega) (by omega));clear h7 k7 j A;go_wp2_with fail;refine B.mono ?_;rintro e u8 ⟨rfl,h8,k8⟩;have L:=aa (J.keeps k8);have C:=aa (h8.null (r:=10) (by omega));clear h8 k8 B;go_wp2_with fail;refine C.mono ?_;rintro e u9 ⟨rfl,h9,k9⟩;have M:=aa (L.keeps k9);have o:=aa (h9.here M.out (by omega) (by omega));clear h9 k9 C;go_wp2_with fail;refine o.mono ?_;rintro e Y ⟨rfl,D,_⟩;have H:=aa D;clear D o;go_wp2_with fail;refine(iB Y 31 3 10 0).mono ?_;rintro e y ⟨rfl,hy⟩;have p:=aa ((H.below hy).emit (c:=1) (n:=1) (eG y 31 3 10 0 0) rfl (by omega) (by omega));clear hy;go_wp2_with fail;refine p.mono ?_;rintro e a2 ⟨rfl,F,_⟩;have I:=aa F;clear F p;go_wp2_with fail;go_end0;exact⟨rfl,by rw[HG.out];exact I.out⟩
variable {K:GC}
theorem JO (w:World):(zeroValue 329).run prog w=.ok (.pointer none) w:=by kernel_rfl
theorem GR.place (h:GR K g wb eb w u) (hi:GI K w g0 wb eb) {p wd bs mn c:Nat} (hp:if p=K.pl then wd=K.word/\bs=K.E.base else oT w p wd bs mn c k):
  u.cell? ⟨p,0,none⟩=some (.int .i64 wd)/\u.cell? ⟨p,1,none⟩=some (.int .i64 bs):=by
 obtain⟨d,f,b,a,_⟩:=h
 by_cases e:p=K.pl
 ·rw[ax e]at hp
  obtain⟨rfl,rfl⟩:=hp;subst e;have:=a.pl;exact⟨(ae this 0).trans rfl,(ae this 1).trans rfl⟩
 ·rw[ap e]at hp
  have:oT u p wd bs mn c k:=by
   unfold oT at hp ⊢;rw[d.block _ (ab hp) (hi.ne.2.2.2.2.2.2 p _ _ hp e)];exact hp
  exact⟨(ae this 0).trans rfl,(ae this 1).trans rfl⟩
theorem GR.maker (h:GR K g wb eb w u):∃a c,u.cell? ⟨K.m,0,none⟩=some (.slice a g.words.length c):=by
 obtain⟨_,n,f,j,_⟩:=h;obtain⟨r,q,i,_⟩:=j.ex;obtain⟨s,k,b,_⟩:=i.ex;obtain⟨l,p,o,d⟩:=bD b;have e:p=g.words.length:=gS b d;subst e;exact⟨l,o,by rw[<- d];exact(ae k 0).trans rfl⟩
theorem GR.set {d:Nat} (h:GR K g wb eb w u) (hw:g.words.length<=800000000) (ha:a<=900000000) (hd:d<=900000000):Calls prog 231 #[pB K.m,.int .i64 a,.int .i64 r,.int .i64 d] u λe v=>e=.returned (.tuple #[])/\GR K (qm a r d g) wb eb w v/\gF u v:=
 h.words (rj a r d g).1 (rj a r d g).2.1 λev wb' hg=>wD u _ _ _ _ _ g wb' _ hg (by omega) a d r ha hd
theorem K0 {bs:List Nat} {xs:List Ex} (h:dn w A bs xs) (hw:Eh xs) {j:Nat} (hj:j<bs.length):∃b x,bs[j]?=some b/\xs[j]?=some x/\x∈xs/\bK w A b x/\ExW x:=by
 obtain⟨b,x,a,c,d,e,f⟩:=xI h hw hj;refine⟨b,x,a,?_,d,e,f⟩;have:=aB List.head? c;rw[List.head?_drop]at this
 simpa using this
theorem JZ:∀{xs:List Ex} {j:Nat} {x:Ex},xs[j]?=some x->gZ (xs.take j)+cN x+gZ (xs.drop (j+1))=gZ xs
 | [],j,x,h=>by simp at h
 | y::xs,0,x,h=>by simp at h;subst h;simp[gZ]
 | y::xs,j+1,x,h=>by
  have:=JZ (xs:=xs) (j:=j) (by simpa using h);rw[gW,List.drop_succ_cons,gZ,gZ];omega
theorem vI {s:Tx} {x:Ex}:∀{xs:List Ex},x∈xs->s∈bn x->s∈iL xs
 | y::xs,h,hs=>by
  rw[iL,aU];rcases aR.1 h with rfl|h
  ·exact .inl hs
  ·exact .inr (vI h hs)
theorem F1 (s:Tx) (args:List Ex) (ha:∀x∈args,GEx K x) (w:World) (g:GS) (wb eb:Option Nat) (k b:Nat) (v:Value) (bs:List Nat) (ln:Int) (hi:GI K w g wb eb) (hb:b<K.lo) (hn:w.heap[b]?=some (exC 4 0 s [] (.pointer none) (.pointer none) v ln)) (ho:li w (Lt K.lo) 261 v bs.length (bs.map pB)) (hat:dn w (Lt K.lo) bs args)
 (hk:k+gZ args+1<=1000000) (hw:g.words.length+40*(gZ args+1)<=700000000) (hc:∀t∈s::iL args,(K.E.funcs t).isSome) (hsl:s.length<=4294967296) (hwa:Eh args):
  Calls prog 278 #[pB K.m,pB b,.int .i64 k] w (pA K (exG K.E (.call s args) k g) wb eb w):=by
 obtain⟨⟨wd,f⟩,N⟩:=iZ.1 (hc s (aL ..));obtain⟨sz,L,hL,a3⟩:=hi.funcs;obtain⟨p,az,c',k',a6,ax,a7⟩:=a3 s wd f N;have ai:=hi.bd.2.2.2.2 s _ N;simp only at ai;have al:∀q,(Instr.lookup 328 (mP K.mf) (.string ⟨s.toArray⟩) false).run prog (w.drewN q)=.ok (pB p) (w.drewN q):=λq=>by
  have aj:Below w.heap.size w (w.drewN q):=⟨rfl,rfl,rfl,ag _,λk hk=>rfl⟩;have:=(hL.below aj).look2 (t:=328) underlying328 (JO (w.drewN q)) hsl false;rw[a6]at this;exact this
 obtain⟨xa,xn,xc,P⟩:=bD ho.1;have ap:xn=bs.length:=gx ho.1 P;subst ap;have S:=xH hat;have ar:=tc args;have aw:bs.length<=1000000:=by omega
 obtain⟨_,_,q2,_,_,_,q6⟩:=cn hn;rw[P]at q6;obtain⟨ev,es,hg,_⟩:=hi.ex;obtain⟨wv,hm,_⟩:=hg.ex;have m1:w.cell? ⟨K.m,1,none⟩=some (mP K.mf):=(ae hm 1).trans rfl;have HI:=aa hi;have HN:=aa hn;have HO:=aa ho;have ac:=aa hat;have HP:=aa a7;have HC:=aa hc;have ah:=aa hwa;have a2:=aa P;have HG:=aa (show exG K.E (.call s args) k g=cL [⟨31,3,10,0,0⟩] (qm (iD K.E f k args.length 0 (ip K.E args k g)).words.length 5 wd (fg 5 (iD K.E f k args.length 0 (ip K.E args k g)))) by rw[exG,N];rfl);have a1:=aa (show∀q,GR K g wb eb w (w.drewN q) fromλq=>(GR.start hi).below ⟨rfl,rfl,rfl,ag _,λk hk=>rfl⟩);have a0:=aa (show∀n,n<=1000000->K.E.slot n<=9000000000000000000 fromλn hn=>sF ⟨hi.bd.1,hi.bd.2.1⟩ hn);clear hi hn ho hat a7 hc hwa P hL a3 a6 N hg hm
 go_enter func278,ntmps278
 go_wp2_with fail
 go_quiet (fail)
 have d6:(w.drewN nq).cell? ⟨b,6,none⟩=some (.slice xa bs.length xc):=q6;have HS:=aa (a1.out nq);clear a1 al q2 q6 m1;generalize w.drewN nq=w2 at d6 HS;go_wp2_with fail;have B:=aa (show GR K (ip K.E (args.take 0) k g) wb eb w w2 from by rw[bO,ip];exact HS.out)
 go_loopw [7,8,25] (λ_ _ s25 wr=>∃j:Nat,s25=.int .i64 j/\j<=bs.length/\Hid (GR K (ip K.E (args.take j) k g) wb eb w wr)) (λ_ _ s25 _=>match s25 with | .int _ j=>bs.length-j.toNat|_=>0)
 case atStart=>exact⟨0,rfl,aV _,B⟩
 case round =>
  clear B HS d6
  rename World=>w5
  obtain⟨j,rfl,hj,I⟩:=hrel
  by_cases hlt:j<bs.length
  ·have H:=HO.on (I.out.tree HI.out)
   obtain⟨Z,D,u⟩:∃Z D,v=.slice (some ⟨Z,0,none⟩) bs.length D:=by
    rcases H.1.2 with⟨_,h0⟩|⟨Z,D,aq,u,_⟩
    ·omega
    ·exact⟨Z,D,u⟩
   have ao:xa=some ⟨Z,0,none⟩:=by have:=a2.out;rw[this]at u;injection u
   obtain⟨xb,x,a8,X,Y,a9,ab⟩:=K0 ac.out ah.out hlt;have V:w5.cell? ⟨Z,j,none⟩=some (pB xb):=by
    rw[(u▸H.1:w5.ownsRow 0 261 1 (.slice (some ⟨Z,0,none⟩) bs.length D) bs.length (bs.map pB)).cellAt j (by omega),aG,a8];rfl
   subst ao;have F:decide ((j:Int)<(bs.length:Int))=true:=by simp;omega
   have G:bs.length-((j:Int)+1).toNat<bs.length-(j:Int).toNat:=ee hlt;have ay:=JZ X;have av:=pV K.E (args.take j) k g;have an:(args.take j).length=j:=by rw[bN];omega
   have au:=tc (args.take j);have L1:=dq K.E x (k+j) (ip K.E (args.take j) k g);have HX:=aa (show Calls prog 269 #[pB K.m,pB xb,.int .i64 ((k:Int)+(j:Int))] w5 _ from I.out.ex HI.out (ha x Y) a9 (k:=k+j) (by omega) (by omega) (λt ht=>HC.out t (aP _ (vI Y ht))) ab);have T:=aa (show ip K.E (args.take (j+1)) k g=lj K.E (k+j) (exG K.E x (k+j) (ip K.E (args.take j) k g)) by
    rw[bT,X,cy,vR,an])
   clear H u a8 X Y a9 ab I;go_wp2_with fail;refine HX.mono ?_;rintro e u1 ⟨rfl,M,_⟩;have h:=aa (show Calls prog 275 #[pB K.m,.int .i64 ((k:Int)+(j:Int))] u1 _ from M.keep (n:=k+j) (by omega));clear M HX V;go_wp2_with fail;refine h.mono ?_;rintro e u2 ⟨rfl,Q,_⟩;have l:=aa (Q.store (r:=3) (a:=K.E.slot (k+j)) (show(exG K.E x (k+j) (ip K.E (args.take j) k g)).words.length<=_ by omega) (a0.out _ (by omega)):Calls prog 256 #[pB K.m,.int .i64 3,.int .i64 (K.E.slot (k+j):Nat)] u2 _);clear Q h;go_wp2_with fail;refine l.mono ?_;rintro e u3 ⟨rfl,R,_⟩;have C:=aa (show GR K (ip K.E (args.take (j+1)) k g) wb eb w u3 from T.out▸R);clear R l;go_wp2_with fail;exact⟨⟨j+1,by simp,hlt,C⟩,G⟩
  ·have a4:j=bs.length:=by omega
   have F:decide ((j:Int)<(bs.length:Int))=false:=by simp;omega
   have J:=aa (show GR K (ip K.E args k g) wb eb w w5 from by have:=I.out;rw[a4,<- S,cg]at this;exact this);obtain⟨_,_,_,_,_,_,d6⟩:=cn (J.tree HI.out b _ hb HN.out);rw[a2.out]at d6;have A1:=pV K.E args k g;obtain⟨o,W⟩:∃o,ip K.E args k g=o:=⟨_,rfl⟩;rw[W]at J A1;have ad:=aa W;clear I a4 W;go_wp2_with fail;have B:=aa (show GR K (iD K.E f k 0 0 o) wb eb w w5 from J.out)
   go_loopw [9,49] (λ_ s49 wr=>∃j:Nat,s49=.int .i64 j/\j<=bs.length/\Hid (GR K (iD K.E f k j 0 o) wb eb w wr)) (λ_ s49 _=>match s49 with | .int _ j=>bs.length-j.toNat|_=>0)
   case atStart=>exact⟨0,rfl,aV _,B⟩
   case round =>
    clear B J d6
    rename World=>w6
    obtain⟨i,rfl,hi,I⟩:=hrel;have P1:=pJ K.E f k i 0 o;have a5:=I.out.place HI.out HP.out;obtain⟨e0,e1⟩:=a5
    by_cases hlt:i<bs.length
    ·have F:decide ((i:Int)<(bs.length:Int))=true:=by simp;omega
     have G:bs.length-((i:Int)+1).toNat<bs.length-(i:Int).toNat:=ee hlt;have P2:=mJ K.E 3 (k+i) (iD K.E f k i 0 o);have T:=aa (show iD K.E f k (i+1) 0 o=fF 3 (f+16*(1+i)) (mw K.E 3 (k+i) (iD K.E f k i 0 o)) by rw[uz,cA]);have h:=aa (show Calls prog 275 #[pB K.m,.int .i64 ((k:Int)+(i:Int))] w6 _ from I.out.keep (n:=k+i) (by omega));clear I e0 e1;go_wp2_with fail;refine h.mono ?_;rintro e u1 ⟨rfl,M,_⟩;have l:=aa (M.load (r:=3) (a:=K.E.slot (k+i)) (show(iD K.E f k i 0 o).words.length<=_ by omega) (a0.out _ (by omega)):Calls prog 259 #[pB K.m,.int .i64 3,.int .i64 (K.E.slot (k+i):Nat)] u1 _);clear M h;go_wp2_with fail;refine l.mono ?_;rintro e u2 ⟨rfl,Q,_⟩;have U:GR K (mw K.E 3 (k+i) (iD K.E f k i 0 o)) wb eb w u2:=Q;obtain⟨f0,f1⟩:=U.place HI.out HP.out;have A:=aa (show Calls prog 256 #[pB K.m,.int .i64 3,.int .i64 ((f:Int)+16*(1+(i:Int)))] u2 _ from U.store (r:=3) (a:=f+16*(1+i)) (by omega) (by omega));clear Q U l f0;go_wp2_with fail;refine A.mono ?_;rintro e u3 ⟨rfl,R,_⟩;have C:=aa (show GR K (iD K.E f k (i+1) 0 o) wb eb w u3 from T.out▸R);clear R A f1;go_wp2_with fail;exact⟨⟨i+1,by simp,hlt,C⟩,G⟩
    ·have ak:i=bs.length:=by omega
     have F:decide ((i:Int)<(bs.length:Int))=false:=by simp;omega
     obtain⟨z,O⟩:∃z,iD K.E f k args.length 0 o=z:=⟨_,rfl⟩;have h0:GR K z wb eb w w6:=by have:=I.out;rw[ak,<- S,O]at this;exact this
     have P3:z.words.length<=o.words.length+8*args.length:=by rw[<- O];exact pJ K.E f k args.length 0 o
     obtain⟨ma,mc,am⟩:=h0.maker;have af:=aa O;have L1:=(gV 5 z).2.2;have h:=aa (h0.jump (gV 5 z).1 (gV 5 z).2.1 (λev wb' hg=>l8 w6 _ _ _ _ _ z wb' _ hg (by omega) 5):Calls prog 228 #[pB K.m,.int .i64 5] w6 _);clear I h0 O e0 e1;go_wp2_with fail;refine h.mono ?_;rintro e u1 ⟨jv,rfl,_,M,_⟩;obtain⟨f0,f1⟩:=M.place HI.out HP.out;have L2:=(rj z.words.length 5 wd (fg 5 z)).2.2;have l:=aa (M.set (a:=z.words.length) (d:=wd) (r:=5) (by omega) (by omega) (by omega):Calls prog 231 #[pB K.m,.int .i64 z.words.length,.int .i64 5,.int .i64 wd] u1 _);clear M h am f1;go_wp2_with fail;refine l.mono ?_;rintro e u2 ⟨rfl,Q,_⟩;have H2:=aa Q;clear Q l f0;go_wp2_with fail;refine(iB u2 31 3 10 0).mono ?_;rintro e y ⟨rfl,hy⟩;have A:=aa ((H2.below hy).emit (c:=1) (n:=1) (eG y 31 3 10 0 0) rfl (by omega) (by omega));clear hy;go_wp2_with fail;refine A.mono ?_;rintro e u3 ⟨rfl,R,_⟩;have H3:=aa R;clear R A;go_wp2_with fail;go_end0;exact⟨rfl,by rw[HG.out,ad.out,af.out];exact H3.out⟩
variable {K:GC}
open Go.Maps Go.WideMaps in
theorem fO {w0:World} {b sz:Nat} {L:Tx->Option Value} (hb:Below w0.heap.size w0 w) (h:bz w b L sz) (hbl:w0.heap.size<=b) (hn:sz<=1000) (x:ByteArray) (v:Int) (hs:x.data.toList.length<=1000):
  ∃w' sz',(Instr.mapUpdate 110 (.map (some b)) (.string x) (.int .i64 v)).run prog w=.ok () w'/\bz w' b (upd L x.data.toList (.int .i64 v)) sz'/\sz'<=sz+1/\Below w0.heap.size w0 w':=by
 have e:keyOf prog 9 (.string x)=some (.string x.data.toList):=by
  have:=LB (s:=x.data.toList) (by omega);rw[Array.toArray_toList]at this;exact this
 obtain⟨w',a,c,d⟩:=h.putK (t:=110) underlying110 (by unfold maxLen;omega) e (.int .i64 v);exact⟨w',_,a,c,by split<;>omega,hb.grown d hb.size λj hj=>by cases hj;exact hbl⟩
def Ck:Tx->Option Value:=upd (upd (upd (upd (upd (upd (upd (upd (upd (upd (upd (upd (upd (upd (λ_=>none) [43] (.int .i64 3)) [45] (.int .i64 4)) [42] (.int .i64 5)) [47] (.int .i64 6)) [37] (.int .i64 7)) [38] (.int .i64 8)) [124] (.int .i64 9)) [94] (.int .i64 10)) [60,60] (.int .i64 11)) [62,62] (.int .i64 12)) [61,61] (.int .i64 15)) [33,61] (.int .i64 15)) [60] (.int .i64 13)) [62,61] (.int .i64 13)
theorem Cj (t:Tx):Ck t=(qu t).map (Value.int .i64):=by
 unfold Ck upd qu Gy
 by_cases h14:t=[62,61]
 ·subst h14;rfl
 by_cases h13:t=[60]
 ·subst h13;rfl
 by_cases h12:t=[33,61]
 ·subst h12;rfl
 by_cases h11:t=[61,61]
 ·subst h11;rfl
 by_cases h10:t=[62,62]
 ·subst h10;rfl
 by_cases h9:t=[60,60]
 ·subst h9;rfl
 by_cases h8:t=[94]
 ·subst h8;rfl
 by_cases h7:t=[124]
 ·subst h7;rfl
 by_cases h6:t=[38]
 ·subst h6;rfl
 by_cases h5:t=[37]
 ·subst h5;rfl
 by_cases h4:t=[47]
 ·subst h4;rfl
 by_cases h3:t=[42]
 ·subst h3;rfl
 by_cases h2:t=[45]
 ·subst h2;rfl
 by_cases h1:t=[43]
 ·subst h1;rfl
 simp[List.lookup,h1,h2,h3,h4,h5,h6,h7,h8,h9,h10,h11,h12,h13,h14,bS.2]
theorem DQ (h:binds t≠0):t.length<=2:=by
 unfold binds at h;cases hf:iQ.find? (λr=>decide (r.1=t))with
 | none=>rw[hf]at h;exact absurd rfl h
 | some r =>
  have a:=dR hf;have b:r.1=t:=by simpa using yg hf
  rw[<- b];simp only[iQ,aR,jG,or_false]at a;rcases a with rfl|rfl|rfl|rfl|rfl|rfl|rfl|rfl|rfl|rfl|rfl|rfl|rfl|rfl|rfl|rfl|rfl|rfl<;>decide
theorem EQ (t:Tx) (l r:Ex) (hl:GEx K l) (hr:GEx K r) (w:World) (g:GS) (wb eb:Option Nat) (k b lb rb:Nat) (ln:Int) (hi:GI K w g wb eb) (hb:b<K.lo) (hn:w.heap[b]?=some (exC 3 0 [] t (pB lb) (pB rb) (.slice none 0 0) ln)) (htl:bK w (Lt K.lo) lb l) (htr:bK w (Lt K.lo) rb r) (hk:k+(cN l+cN r+1)<=1000000) (hw:g.words.length+40*(cN l+cN r+1)<=700000000)
 (hcl:∀s∈bn l,(K.E.funcs s).isSome) (hcr:∀s∈bn r,(K.E.funcs s).isSome) (hwl:ExW l) (hwr:ExW r) (ht:binds t≠0):
  Calls prog 281 #[pB K.m,pB b,.int .i64 k] w (pA K (exG K.E (.bin t l r) k g) wb eb w):=by
 obtain⟨_,_,_,q3,q4,q5,_⟩:=cn hn
 by_cases hs:t=[38,38]\/t=[124,124]
 ·have G:=aa (BU t l r hl hr w g wb eb k b lb rb ln hi hb hn htl htr (by omega) (by omega) hcl hcr hwl hwr hs)
  clear hi hn htl htr hcl hcr hwl hwr;rcases hs with rfl|rfl
  all_goals
   go_enter func281,ntmps281
   go_wp2_with fail;refine G.mono ?_;rintro e u ⟨rfl,hu⟩;have HU:=aa hu;clear hu G;go_wp2_with fail;go_end0;exact⟨rfl,HU.out⟩
 have s1:(t==([38,38]:Tx))=false:=bS.2 λe=>hs (.inl e);have s2:(t==([124,124]:Tx))=false:=bS.2 λe=>hs (.inr e);have a6:=DQ ht;have L1:=tG K.E l r k g;have v:=aa (show exG K.E (.bin t l r) k g=rk t (re K.E l r k g) by rw[exG,ap hs];rfl);have HI:=aa hi;have HN:=aa hn;have HT:=aa (show aX (Lt K.lo) w w.drew from aX.below (ai _ _).drew);have G:=aa (((GR.start hi).below (ai _ _).drew).call λwb' eb' hi'=>tH l r hl hr w.drew g wb' eb' k lb rb hi' (htl.onA HT.out) (htr.onA HT.out) (by omega) (by omega) hcl hcr hwl hwr);obtain⟨gb,T⟩:∃gb,re K.E l r k g=gb:=⟨_,rfl⟩;rw[T]at L1 v G;have U:=@run_makeMap prog;clear hi hn htl htr hcl hcr hwl hwr ht hs T
 go_enter func281,ntmps281
 go_wp2_with fail
 go_still_tail 10,(by kernel_rfl)
 change wpList _ _ _ _ _ w.drew;go_wp2_with fail;refine G.mono ?_;rintro e u ⟨rfl,h1,_⟩;have I:Below u.heap.size u (u.alloc (.map #[] 0)):=az;have m0:=bz.made u;obtain⟨w1,n1,r1,m1,z1,J⟩:=fO I m0 (ag _) (by omega) ⟨#[43]⟩ 3 (by decide);obtain⟨w2,n2,r2,m2,z2,L⟩:=fO J m1 (ag _) (by omega) ⟨#[45]⟩ 4 (by decide);obtain⟨w3,n3,r3,m3,z3,M⟩:=fO L m2 (ag _) (by omega) ⟨#[42]⟩ 5 (by decide);obtain⟨w4,n4,r4,m4,z4,N⟩:=fO M m3 (ag _) (by omega) ⟨#[47]⟩ 6 (by decide);obtain⟨w5,n5,r5,m5,z5,O⟩:=fO N m4 (ag _) (by omega) ⟨#[37]⟩ 7 (by decide);obtain⟨w6,n6,r6,m6,z6,P⟩:=fO O m5 (ag _) (by omega) ⟨#[38]⟩ 8 (by decide);obtain⟨w7,n7,r7,m7,z7,Q⟩:=fO P m6 (ag _) (by omega) ⟨#[124]⟩ 9 (by decide);obtain⟨w8,n8,r8,m8,z8,R⟩:=fO Q m7 (ag _) (by omega) ⟨#[94]⟩ 10 (by decide);obtain⟨w9,n9,r9,m9,z9,S⟩:=fO R m8 (ag _) (by omega) ⟨#[60,60]⟩ 11 (by decide);obtain⟨ak,ae,a1,W,a8,A⟩:=fO S m9 (ag _) (by omega) ⟨#[62,62]⟩ 12 (by decide);obtain⟨al,af,a2,X,a9,B⟩:=fO A W (ag _) (by omega) ⟨#[61,61]⟩ 15 (by decide);obtain⟨am,ah,a3,Y,ab,C⟩:=fO B X (ag _) (by omega) ⟨#[33,61]⟩ 15 (by decide);obtain⟨an,aj,a4,Z,ac,D⟩:=fO C Y (ag _) (by omega) ⟨#[60]⟩ 13 (by decide);obtain⟨a,a7,a5,a0,ad,j⟩:=fO D Z (ag _) (by omega) ⟨#[62,61]⟩ 13 (by decide);have hL:bz a u.heap.size Ck a7:=a0;have h:=hL.look2 (t:=110) underlying110 (Et a) (s:=t) (by omega) true;rw[Cj]at h;obtain⟨_,_,_,F,_⟩:=cn (h1.tree HI.out b _ hb HN.out);have e3:a.cell? ⟨b,3,none⟩=some (.string ⟨t.toArray⟩):=(aI (w:=u) (j.block _ (aH F))).trans F;have HR:=aa (h1.below j);clear h1 G q3 q4 q5 F hL I m0 m1 z1 J m2 z2 L m3 z3 M m4 z4 N m5 z5 O m6 z6 P m7 z7 Q m8 z8 R m9 z9 S W a8 A X a9 B Y ab C Z ac D a0 ad j;cases hp:qu t with
 | some o =>
  rw[hp]at h;have q:(Instr.lookup 110 (mP u.heap.size) (.string ⟨t.toArray⟩) true).run prog a=.ok (.tuple #[.int .i64 o,.bool true]) a:=h;have p:∀g,rk t g=if t=[33,61]\/t=[62,61]\/t=[60,61]then oo (cL [⟨o,3,4,3,0⟩] g)else cL [⟨o,3,4,3,0⟩] g:=λg=>by unfold rk;rw[hp]
  have x:=aa p;have L2:=(gB [⟨o,3,4,3,0⟩] gb).2.2;simp only[aC,aW]at L2;clear h p hp;go_wp2_with fail;refine(iB a o 3 4 3).mono ?_;rintro e y ⟨rfl,V⟩;have i:=aa ((HR.below V).emit (c:=1) (n:=1) (eG y o 3 4 3 0) rfl (by omega) (by omega));clear V r1 r2 r3 r4 r5 r6 r7 r8 r9 a1 a2 a3 a4 a5 q U e3;go_wp2_with fail;refine i.mono ?_;rintro e u2 ⟨rfl,z,_⟩;obtain⟨_,_,_,F,_⟩:=cn (z.tree HI.out b _ hb HN.out);have d:=aa (z.not (by omega));have H2:=aa z;clear z i
  by_cases t1:t=[33,61]\/t=[62,61]\/t=[60,61]
  ·have f:=aa (show exG K.E (.bin t l r) k g=_ by rw[v.out,x.out,ax t1])
   clear x v;rcases t1 with rfl|rfl|rfl
   all_goals
    go_wp2_with fail;refine d.mono ?_;rintro e u3 ⟨rfl,H,_⟩;have H3:=aa H;clear H d F;go_wp2_with fail;go_end0;exact⟨rfl,by rw[f.out];exact H3.out⟩
  ·have f:=aa (show exG K.E (.bin t l r) k g=_ by rw[v.out,x.out,ap t1])
   have t2:(t==([33,61]:Tx))=false:=bS.2 λe=>t1 (.inl e);have t3:(t==([62,61]:Tx))=false:=bS.2 λe=>t1 (.inr (.inl e));have t4:(t==([60,61]:Tx))=false:=bS.2 λe=>t1 (.inr (.inr e));clear t1 x v d;go_wp2_with fail;go_end0;exact⟨rfl,by rw[f.out];exact H2.out⟩
 | none =>
  rw[hp]at h;have q:(Instr.lookup 110 (mP u.heap.size) (.string ⟨t.toArray⟩) true).run prog a=.ok (.tuple #[.int .i64 0,.bool false]) a:=h;have p:∀g,rk t g=if t=[33,61]\/t=[62,61]\/t=[60,61]then oo (cL [⟨13,3,3,4,0⟩] g)else cL [⟨13,3,3,4,0⟩] g:=λg=>by unfold rk;rw[hp]
  have x:=aa p;have L2:=(gB [⟨13,3,3,4,0⟩] gb).2.2;simp only[aC,aW]at L2;clear h p hp;go_wp2_with fail;refine(iB a 13 3 3 4).mono ?_;rintro e y ⟨rfl,V⟩;have i:=aa ((HR.below V).emit (c:=1) (n:=1) (eG y 13 3 3 4 0) rfl (by omega) (by omega));clear V r1 r2 r3 r4 r5 r6 r7 r8 r9 a1 a2 a3 a4 a5 q U e3;go_wp2_with fail;refine i.mono ?_;rintro e u2 ⟨rfl,z,_⟩;obtain⟨_,_,_,F,_⟩:=cn (z.tree HI.out b _ hb HN.out);have d:=aa (z.not (by omega));have H2:=aa z;clear z i
  by_cases t1:t=[33,61]\/t=[62,61]\/t=[60,61]
  ·have f:=aa (show exG K.E (.bin t l r) k g=_ by rw[v.out,x.out,ax t1])
   clear x v;rcases t1 with rfl|rfl|rfl
   all_goals
    go_wp2_with fail;refine d.mono ?_;rintro e u3 ⟨rfl,H,_⟩;have H3:=aa H;clear H d F;go_wp2_with fail;go_end0;exact⟨rfl,by rw[f.out];exact H3.out⟩
  ·have f:=aa (show exG K.E (.bin t l r) k g=_ by rw[v.out,x.out,ap t1])
   have t2:(t==([33,61]:Tx))=false:=bS.2 λe=>t1 (.inl e);have t3:(t==([62,61]:Tx))=false:=bS.2 λe=>t1 (.inr (.inl e));have t4:(t==([60,61]:Tx))=false:=bS.2 λe=>t1 (.inr (.inr e));clear t1 x v d;go_wp2_with fail;go_end0;exact⟨rfl,by rw[f.out];exact H2.out⟩
variable {K:GC}
theorem MU (t:Tx) (r:Ex) (hr:GEx K r):GEx K (.un t r):=by
 intro w g x n k b i a;have j:=a.at';have d:=a.w;have p:=a.k;have q:=a.len;have f:=a.calls;rw[bK]at j;unfold ExW at d;rw[cN]at p q;rw[bn]at f;obtain⟨o,s,v,hn,c⟩:=j;obtain⟨y,_⟩:=cn hn;have h:=aa (Ig t r hr w g x n k b v s i o hn c (by omega) (by omega) f d.2 d.1);clear i a hn d f c
 go_enter func269,ntmps269
 go_wp2_with fail;refine h.mono ?_;rintro e u ⟨rfl,l⟩;have m:=aa l;clear l h;go_wp2_with fail;go_end0;exact⟨rfl,m.out⟩
theorem Ml (t:Tx) (l r:Ex) (hl:GEx K l) (hr:GEx K r):GEx K (.bin t l r):=by
 intro w g C q k b m a;have n:=a.at';have f:=a.w;have x:=a.k;have y:=a.len;have i:=a.calls;rw[bK]at n;unfold ExW at f;rw[cN]at x y;rw[bn]at i;obtain⟨v,A,z,B,hn,c,d⟩:=n;obtain⟨D,_⟩:=cn hn;have j:=aa (EQ t l r hl hr w g C q k b z B A m v hn c d (by omega) (by omega) (λs h=>i s (eK _ h)) (λs h=>i s (iy _ h)) f.2.1 f.2.2 f.1);clear m a hn f i c d
 go_enter func269,ntmps269
 go_wp2_with fail;refine j.mono ?_;rintro e u ⟨rfl,o⟩;have p:=aa o;clear o j;go_wp2_with fail;go_end0;exact⟨rfl,p.out⟩
theorem Mj (l:Ex) (hl:GEx K l):GEx K (.new l):=by
 intro w g t o k b i a;have j:=a.at';have f:=a.w;have p:=a.k;have q:=a.len;have d:=a.calls;rw[bK]at j;unfold ExW at f;rw[cN]at p q;rw[bn]at d;obtain⟨v,s,r,hn,c⟩:=j;obtain⟨x,_⟩:=cn hn;have h:=aa (Dg l hl w g t o k b r s i hn c (by omega) (by omega) d f);clear i a hn f d c
 go_enter func269,ntmps269
 go_wp2_with fail;refine h.mono ?_;rintro e u ⟨rfl,m⟩;have n:=aa m;clear m h;go_wp2_with fail;go_end0;exact⟨rfl,n.out⟩
theorem KU (s:Tx) (args:List Ex) (ha:∀x∈args,GEx K x):GEx K (.call s args):=by
 intro w g z p k b j a;have l:=a.at';have d:=a.w;have r:=a.k;have t:=a.len;have f:=a.calls;rw[bK]at l;unfold ExW at d;rw[cN]at r t;rw[bn]at f;obtain⟨q,y,v,o,hn,i,c⟩:=l;obtain⟨A,_⟩:=cn hn;have h:=aa (F1 s args ha w g z p k b v o y j q hn i c (by omega) (by omega) f d.1 d.2.2);clear j a hn d f i c
 go_enter func269,ntmps269
 go_wp2_with fail;refine h.mono ?_;rintro e u ⟨rfl,m⟩;have n:=aa m;clear m h;go_wp2_with fail;go_end0;exact⟨rfl,n.out⟩
theorem Mk:GEx K .inp:=by
 intro w g D y k b l a;have m:=a.at';have t:=a.w;have r:=a.k;have s:=a.len;have j:=a.calls;rw[bK]at m;unfold ExW at t;rw[cN]at r s;rw[bn]at j;obtain⟨A,B,hn⟩:=m;obtain⟨u,_⟩:=cn hn;have x:=(oC 5 g).2.2;have f:=aa ((GR.start l).service (n:=5) (by omega));clear l a hn j
 go_enter func269,ntmps269
 go_wp2_with fail;refine f.mono ?_;rintro e v ⟨rfl,h,_⟩;have p:=aa h;clear h f u;go_wp2_with fail;refine(iB v 31 3 10 0).mono ?_;rintro e z ⟨rfl,o⟩;have d:=aa ((p.below o).emit (c:=1) (n:=1) (eG z 31 3 10 0 0) rfl (by omega) (by omega));clear o;go_wp2_with fail;refine d.mono ?_;rintro e C ⟨rfl,i,_⟩;have q:=aa i;clear i d;go_wp2_with fail;go_end0;exact⟨rfl,by rw[exG];exact q.out⟩
theorem KR (l r:Ex) (hl:GEx K l) (hr:GEx K r):GEx K (.link l r):=by
 intro w g wb W k b t d;have A:=d.at';have p:=d.w;have L:=d.k;have M:=d.len;have o:=d.calls;rw[bK]at A;unfold ExW at p;rw[cN]at L M;rw[bn]at o;obtain⟨J,X,N,R,hn,j,m⟩:=A;obtain⟨O,_,_,_,P,Q,_⟩:=cn hn;have T:=tG K.E l r k g;have U:=(lq 11 3 3 4 (re K.E l r k g)).2.2;have I:=(gB [⟨32,4,4,3,0⟩,⟨23,3,4,0,0⟩] (eI 11 3 3 4 (re K.E l r k g))).2.2;simp only[aC,aW]at I;have E:=aa (show exG K.E (.link l r) k g=cL [⟨32,4,4,3,0⟩,⟨23,3,4,0,0⟩] (eI 11 3 3 4 (re K.E l r k g)) by rw[exG];rfl);have F:=aa t;have G:=aa hn;have H:=aa ((GR.start t).below (ai _ _).drew);have v:=aa (show aX (Lt K.lo) w w.drew from aX.below (ai _ _).drew);have u:=aa (H.call λwb' eb' hi'=>tH l r hl hr w.drew g wb' eb' k N R hi' (j.onA v.out) (m.onA v.out) (by omega) (by omega) (λs h=>o s (eK _ h)) (λs h=>o s (iy _ h)) p.1 p.2);clear t d hn p o j m
 go_enter func269,ntmps269
 go_wp2_with fail
 go_still_tail 10,(by kernel_rfl)
 change wpList _ _ _ _ _ w.drew;go_wp2_with fail;refine u.mono ?_;rintro e Y ⟨rfl,x,_⟩;have f:=aa (x.shift (a:=11) (b:=3) (c:=3) (n:=4) (by omega) (by omega) (by omega));clear x u O P Q;go_wp2_with fail;refine f.mono ?_;rintro e S ⟨rfl,y,_⟩;have C:=aa y;clear y f;go_wp2_with fail;refine(iB S 32 4 4 3).mono ?_;rintro e z ⟨rfl,B⟩;have i:=aa ((C.below B).emit (c:=2) (n:=2) (nS z 32 4 4 3 0 23 3 4 0 0) rfl (by omega) (by omega));clear B;go_wp2_with fail;refine i.mono ?_;rintro e Z ⟨rfl,q,_⟩;obtain⟨V,_⟩:=cn (q.tree F.out b _ J G.out);have D:=aa q;clear q i;go_wp2_with fail;go_end0;exact⟨rfl,by rw[E.out];exact D.out⟩
theorem KT (l r:Ex) (hl:GEx K l) (hr:GEx K r):GEx K (.cell l r):=by
 intro w g wb eb k b u f;have E:=f.at';have d:=f.w;have T:=f.k;have U:=f.len;have q:=f.calls;rw[bK]at E;unfold ExW at d;rw[cN]at T U;rw[bn]at q;obtain⟨S,ln,V,Z,hn,o,p⟩:=E;obtain⟨W,_,_,_,X,Y,_⟩:=cn hn;have L1:=tG K.E l r k g;have L2:=(lq 11 3 3 4 (re K.E l r k g)).2.2;have Q:=(gB [⟨32,4,4,3,0⟩,⟨23,3,4,0,0⟩] (eI 11 3 3 4 (re K.E l r k g))).2.2;simp only[aC,aW]at Q;have L:=aa (show exG K.E (.cell l r) k g=cL [⟨48,6,3,0,0⟩,⟨26,6,0,0,2⟩,⟨53,0,0,0,0⟩] (cL [⟨32,4,4,3,0⟩,⟨23,3,4,0,0⟩] (eI 11 3 3 4 (re K.E l r k g))) by rw[exG];rfl);have M:=aa u;have N:=aa hn;have O:=aa ((GR.start u).below (ai _ _).drew);have A:=aa (show aX (Lt K.lo) w w.drew from aX.below (ai _ _).drew);have v:=aa (O.call λwb' eb' hi'=>tH l r hl hr w.drew g wb' eb' k V Z hi' (o.onA A.out) (p.onA A.out) (by omega) (by omega) (λs h=>q s (eK _ h)) (λs h=>q s (iy _ h)) d.1 d.2);clear u f hn d q o p
 go_enter func269,ntmps269
 go_wp2_with fail
 go_still_tail 10,(by kernel_rfl)
 change wpList _ _ _ _ _ w.drew;go_wp2_with fail;refine v.mono ?_;rintro e u1 ⟨rfl,B,_⟩;have i:=aa (B.shift (a:=11) (b:=3) (c:=3) (n:=4) (by omega) (by omega) (by omega));clear B v W X Y;go_wp2_with fail;refine i.mono ?_;rintro e u2 ⟨rfl,C,_⟩;have H:=aa C;clear C i;go_wp2_with fail;refine(iB u2 32 4 4 3).mono ?_;rintro e z ⟨rfl,G⟩;have j:=aa ((H.below G).emit (c:=2) (n:=2) (nS z 32 4 4 3 0 23 3 4 0 0) rfl (by omega) (by omega));clear G;go_wp2_with fail;refine j.mono ?_;rintro e u3 ⟨rfl,t,_⟩;obtain⟨R,_⟩:=cn (t.tree M.out b _ S N.out);have I:=aa t;clear t j;go_wp2_with fail;refine(iB u3 48 6 3 0).mono ?_;rintro e y ⟨rfl,F⟩;have P:=aa (I.below F);clear F R;go_wp2_with fail;refine(iB y 53 0 0 0).mono ?_;rintro e x ⟨rfl,d⟩;have m:=aa ((P.below d).emit (c:=3) (n:=3) (FG x 48 6 3 0 0 26 6 0 0 2 53 0 0 0 0) rfl (by omega) (by omega));clear d;go_wp2_with fail;refine m.mono ?_;rintro e u4 ⟨rfl,D,_⟩;have J:=aa D;clear D m;go_wp2_with fail;go_end0;exact⟨rfl,by rw[L.out];exact J.out⟩
mutual
theorem fK:∀x:Ex,GEx K x
 | .num n=>Mi n
 | .name s=>KQ s
 | .un t r=>MU t r (fK r)
 | .bin t l r=>Ml t l r (fK l) (fK r)
 | .call s args=>KU s args (zq args)
 | .cell l r=>KT l r (fK l) (fK r)
 | .link l r=>KR l r (fK l) (fK r)
 | .new l=>Mj l (fK l)
 | .inp=>Mk
theorem zq:∀(l:List Ex),∀x∈l,GEx K x
 | []=>λx h=>by cases h
 | y::l=>λx h=>by
  have a:=fK y;have b:=zq l;rcases aR.1 h with rfl|h
  ·exact a
  ·exact b x h
end
variable {K:GC}
theorem Tryz.info1:(Tryz.prog.info? 1).map (λi=>(i.zero,i.size,i.bytes))=some (some .nilFunc,1,8):=by kernel_rfl
theorem ky.snoc {lo m:Nat} {v:Value} (hv:JAt u v m a 6 lo):∀{vs:List Value} {ps:List Nat},ky u lo m vs ps->ky u lo m (vs++[v]) (ps++[a])
 | [],[],_=>⟨hv,trivial⟩
 | x::vs,b::ps,h=>⟨h.1,ky.snoc hv h.2⟩
 | [],_::_,h=>h.elim
 | _::_,[],h=>h.elim
theorem GI.addEnd {q w1:World} {wv ev jv:Value} {es:List Value} {gg cap:Nat} (h:GI K q g wb eb) (hm:q.heap[K.m]?=some (.cells #[wv,mP K.mf,.int .i64 K.bt,pB K.pl,ev,.bool g.bad] 332 (0,0))) (hrow:q.ownsRow 0 1 1 ev g.ends.length es) (heb:ev.ownBlock=eb) (hes:ky q K.lo K.m es g.ends) (hj:JAt q jv K.m a 6 K.lo)
 (hg:(q.alloc (.cells #[jv] 1)).grownBy w1 ev.ownBlock) (hown:w1.ownsRow 0 1 1 (.slice (some ⟨gg,0,none⟩) (g.ends.length+1) cap) (g.ends.length+1) (es++[jv])) (hat:ev.ownBlock=some gg\/gg=q.heap.size+1):
  GR K { g with ends:=g.ends++[a] } wb eb q (w1.setCell ⟨K.m,4,none⟩ (.slice (some ⟨gg,0,none⟩) (g.ends.length+1) cap)):=by
 have d:=h.ne;have C:=h.l;obtain⟨A,O,y,_⟩:=h.ex;obtain⟨w,o,I,v⟩:=y.ex;have F:=y.l;have N:w=wv/\A=ev:=by
  rw[hm]at o;simp only[aq,Obj.cells.injEq,iF,fN,A9,true_and]at o;exact⟨o.1.symm,o.2.symm⟩
 obtain⟨rfl,rfl⟩:=N;have n:Chg (λi=>eb=some i) q w1:=((Chg.refl _ q).alloc _).grown hg λk hk _=>by rw[<- heb];exact hk
 have E:Chg (GT K wb eb) q w1:=n.mono λi _ hi=>.inr (.inr (.inr hi));have f:=E.setCell (p:=⟨K.m,4,none⟩) (λ_=>.inl rfl) (.slice (some ⟨gg,0,none⟩) (g.ends.length+1) cap);have B:∀x,eb=some x->¬x=K.m:=λx c=>(d.2.2.2.2.1 x c).1;have H:w1.heap[K.m]?=some (.cells #[w,mP K.mf,.int .i64 K.bt,pB K.pl,A,.bool g.bad] 332 (0,0)):=by
  rw[n.block _ (ab hm) λe=>B _ e rfl];exact hm
 have Q:=ab hm;have G:¬gg=K.m:=by
  rcases hat with l|l
  ·exact B gg (by rw[<- heb];exact l)
  ·omega
 have u:Chg (λi=>i=K.m\/eb=some i) q (w1.setCell ⟨K.m,4,none⟩ (.slice (some ⟨gg,0,none⟩) (g.ends.length+1) cap)):=(n.mono λi _ hi=>.inr hi).setCell (p:=⟨K.m,4,none⟩) (λ_=>.inl rfl) _;have r:∀b sz L,bz q b L sz->¬(b=K.m\/eb=some b):=λb sz L hb hs=>d.2.1 b sz L hb (hs.elim .inl λe=>.inr (.inr (.inr e)));refine⟨f,wb,some gg,⟨⟨_,es++[jv],⟨⟨w,aA (j:=4) H _,?_,v⟩,y.rg,y.tab.chg f ?_,y.l⟩,?_,rfl,?_⟩,?_,?_,?_,⟨C.1,C.2.1,C.2.2.1,?_⟩,h.bd⟩,.inl rfl,?_⟩
 ·refine gX (aY I n λx c e=>?_) (p:=⟨K.m,4,none⟩) (λx c=>y.ne x (v▸c)) _
  exact(d.2.2.2.2.1 x e).2.2 (v▸c)
 ·exactλe=>d.2.2.2.2.2.1 1 F.1 e
 ·show World.ownsRow _ _ _ _ _ (g.ends++[a]).length _
  rw[ac,My];exact gX hown (p:=⟨K.m,4,none⟩) (λx c=>by injection c with c;subst c;exact G) _
 ·exact(hes.keeps (h.keeps f)).snoc (hj.keeps (h.keeps f))
 ·have:=h.pl
  unfold oT at this ⊢;rw[u.block _ (ab this) λe=>e.elim d.2.2.1 λe=>(d.2.2.2.2.1 _ e).2.1 rfl];exact this
 ·obtain⟨sz,L,z,D⟩:=h.names
  exact⟨sz,L,z.chg u (r _ _ _ z),D⟩
 ·obtain⟨sz,L,z,D⟩:=h.funcs
  refine⟨sz,L,z.chg u (r _ _ _ z),λt wd bs ht=>?_⟩;obtain⟨p,J,M,R,l,P,s⟩:=D t wd bs ht;refine⟨p,J,M,R,l,P,?_⟩
  by_cases hp:p=K.pl
  ·rw[ax hp]at s ⊢;exact s
  ·rw[ap hp]at s ⊢
   unfold oT at s ⊢;rw[f.block _ (ab s) (d.2.2.2.2.2.2 p _ _ s hp)];exact s
 ·intro x c
  injection c with c;subst c;rcases hat with l|l
  ·exact C.2.2.2 gg (by rw[<- heb];exact l)
  ·omega
 ·rcases hat with l|l
  ·exact .inl (by rw[<- heb];exact l.symm)
  ·exact .inr λx c=>by injection c with c;omega
def FAt (w:World) (f:Nat) (fp:Bool):Prop:=∃nm vp vb ln,w.heap[f]?=some (fnC nm vp fp vb ln)
theorem FAt.c (h:FAt w f fp):w.cell? ⟨f,2,none⟩=some (.bool fp):=by obtain⟨nm,d,b,a,h⟩:=h;exact(ae h 2).trans rfl
theorem FAt.on (h:FAt w f fp) (hs:aX A w u) (ha:A f):FAt u f fp:=by obtain⟨nm,c,b,a,h⟩:=h;exact⟨nm,c,b,a,hs f _ ha h⟩
structure StOk (K:GC) (w:World) (g:GS) (fp:Bool) (x:Sm) (f b:Nat):Prop where
 at':ci w (Lt K.lo) b x
 fl:f<K.lo
 fn:FAt w f fp
 sz:cP x<=900000
 len:g.words.length+40*cP x<=690000000
 ends:g.ends.length+cP x<=1000000
 calls:∀s∈bY x,(K.E.funcs s).isSome
 w:SmW x
def GSt (K:GC) (fp:Bool) (x:Sm):Prop:=∀w g wb eb f b,GI K w g wb eb->StOk K w g fp x f b->Calls prog 268 #[pB K.m,pB f,pB b] w (pA K (stG K.E fp x g) wb eb w)
theorem GR.ends (h:GR K g wb eb w u):g.words.length<=g.words.length:=ag _
theorem D3 (w:World) (g:GS) (wb eb:Option Nat) (hi:GI K w g wb eb) (p:Bool) (hw:g.words.length<=700000000):
  Calls prog 258 #[pB K.m,.pointer none,.bool p] w (pA K (cS K.E p none g) wb eb w):=by
 cases p with
 | true =>
  have a:=aa ((GR.start hi).null (r:=10) (by omega));clear hi
  go_enter func258,ntmps258
  go_wp2_with fail;refine a.mono ?_;rintro e u ⟨rfl,b,_⟩;have c:=aa b;clear b a;go_wp2_with fail;go_end0;exact⟨rfl,by rw[cS,ax rfl];exact c.out⟩
 | false =>
  have a:=aa ((GR.start hi).number (r:=10) (n:=0) (by omega) (by omega) (by omega));clear hi
  go_enter func258,ntmps258
  go_wp2_with fail;refine a.mono ?_;rintro e u ⟨rfl,b,_⟩;have c:=aa b;clear b a;go_wp2_with fail;go_end0;exact⟨rfl,by rw[cS,ap (by decide)];exact c.out⟩
theorem yd (w:World) (g:GS) (wb eb:Option Nat) (hi:GI K w g wb eb) (x:Ex) (b:Nat) (hx:bK w (Lt K.lo) b x) (p:Bool) (hk:cN x<=1000000) (hw:g.words.length+40*cN x<=700000000) (hc:∀s∈bn x,(K.E.funcs s).isSome) (hwx:ExW x):
  Calls prog 258 #[pB K.m,pB b,.bool p] w (pA K (cS K.E p (some x) g) wb eb w):=by
 have q:=dq K.E x 0 g;have d:=aa (show Calls prog 269 #[pB K.m,pB b,.int .i64 0] w _ from(GR.start hi).ex hi (fK x) hx (k:=0) (by omega) hw hc hwx);clear hi hx hc hwx
 go_enter func258,ntmps258
 go_wp2_with fail;refine d.mono ?_;rintro e o ⟨rfl,f,_⟩;have j:=aa f;clear f d;go_wp2_with fail;refine(iB o 31 10 3 0).mono ?_;rintro e z ⟨rfl,i⟩;have a:=aa ((j.below i).emit (c:=1) (n:=1) (eG z 31 10 3 0 0) rfl (by omega) (by omega));clear i;go_wp2_with fail;refine a.mono ?_;rintro e r ⟨rfl,h,_⟩;have l:=aa h;clear h a;go_wp2_with fail;go_end0;exact⟨rfl,by rw[cS];exact l.out⟩
end Go.Proofs.YtbeaaimcpkogcaaGreatDoor
