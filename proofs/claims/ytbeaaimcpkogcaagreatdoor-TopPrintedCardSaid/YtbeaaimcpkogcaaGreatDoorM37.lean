/- Lemmas on the way to the claim. -/
import Derived.Test.YtbeaaimcpkogcaaGreatDoorM31
set_option linter.unusedSimpArgs false
set_option linter.unusedVariables false
set_option maxHeartbeats 8000000
set_option maxRecDepth 100000
namespace Go.Proofs.YtbeaaimcpkogcaaGreatDoor
open Go.Proofs.Tryz Go.RowKit
variable {w1 x:World} {c g m:Nat} {o:Obj}
theorem Hx (N M:Nat) (hM:N+2<=M) (hE:fH M) (hBr:Ly N) (w:World) (P:Nat) (s:PS) (h:PG w P s) (hN:s.ts.length<=N+1) (hk:(hd s).kind=4) (ht:(hd s).text=wIf):
  Calls prog 115 #[pB P] w (lW s P w):=by
 have Q:=h.lt;have a3:1<=s.ts.length:=bc.2 h.ne;have a:Below w.heap.size w (w.alloc (.cells #[pB P] 51)):=az;obtain⟨n,E⟩:=(h.on a).head;generalize B:w.alloc (.cells #[pB P] 51)=w1 at a E;have l:=aa (show One w1 w.heap.size (pB P) 51 by rw[<- B];exact af _ _);rw[hk,ht]at E;have HH:=aa E;have t:=aa a;have L:=l.c;have a5:w.heap.size<w1.heap.size:=ab l.out;clear E a
 go_enter func115,ntmps115
 go_wp2_with fail;refine(cC w1 P _ _ _ _ n HH.out).mono ?_;rintro e u ⟨rfl,F⟩;have a0:=F.size;have V:=aa (t.trans (F.mono t.size));have o:=aa (l.below F);clear F B L;have L:=o.c;generalize c:u.alloc (.cells #[.int .i64 4,.string ⟨(wIf:Tx).toArray⟩,.int .i64 n] 59)=v1;generalize d:v1.alloc (stC 0 [] false cM cM bX bX n)=v2;generalize g:v2.alloc (.cells #[pB (u.heap.size+1)] 195)=v3;have z1:v1.heap.size=u.heap.size+1:=by rw[<- c];exact ah _ _
 have z2:v2.heap.size=u.heap.size+1+1:=by rw[<- d,ah,z1]
 have z3:v3.heap.size=u.heap.size+1+1+1:=by rw[<- g,ah,z2]
 have O:Below u.heap.size u v1:=by rw[<- c];exact az
 have D:Below v1.heap.size v1 v2:=by rw[<- d];exact az
 have A:Below v2.heap.size v2 v3:=by rw[<- g];exact az
 have U:=aa (show TV v3 u.heap.size 4 wIf n from((show TV v1 u.heap.size 4 wIf n by rw[<- c];exact af _ _).below D).below A);have t2:v1.cell? ⟨u.heap.size,2,none⟩=some (.int .i64 n):=(show TV v1 u.heap.size 4 wIf n by rw[<- c];exact af _ _).c.2.2;have HX:=aa (show StN v3 (u.heap.size+1) 0 [] false cM cM bX bX n from(show StN v2 (u.heap.size+1) 0 [] false cM cM bX bX n by rw[<- d,<- z1];exact af _ _).below A);have v:=aa (show One v3 (u.heap.size+1+1) (pB (u.heap.size+1)) 195 by rw[<- g,<- z2];exact af _ _);have i:=aa (show Below w.heap.size w v3 from(V.trans ((O.trans (D.mono (by omega))).trans (A.mono (by omega)) |>.mono V.size)));have p:=aa (show One v3 w.heap.size (pB P) 51 from o.below ((O.trans (D.mono (by omega))).trans (A.mono (by omega))));have r:=aa (h.on i.out);have a2:P<w.heap.size:=Q;have a4:w.heap.size<u.heap.size:=by omega
 clear O D A;obtain⟨X,c1,c2⟩:=U.c;have x0:=v.c;have W:=p.c;go_wp2_with fail;refine(jC v3 P (some s) r.out).mono ?_;rintro e z ⟨rfl,rfl⟩;clear c d g L t2;go_wp2_with fail;refine(dZ v3 P s r.out).mono ?_;rintro e y ⟨rfl,m,Y⟩;have I:=aa Y;have H:=aa ((Chg.of_below (S:=(·=P)) i.out).then m);have J:=aa (U.chg m (by omega));have a1:=aa (HX.chg m (by omega));have j:=aa (v.chg m (by omega));have G:=aa (p.chg m (by omega));have T:(aS s).ts.length+1=s.ts.length:=d9 (h.long (by rw[hk];decide));have a6:u.heap.size+1+1<y.heap.size:=ab j.out;clear m Y X c1 c2 x0 W;obtain⟨X,c1,c2⟩:=J.c;have x0:=j.c;have W:=G.c;go_wp2_with fail;refine(hBr y P (aS s) n I.out (by omega)).mono ?_;rintro e z ⟨b,q,rfl,a,R,Z,hx⟩;have C:=aa Z;have K:=aa hx;clear Z hx;go_wp2_with fail;go_ret;refine⟨b,q,rfl,by omega,R,⟨H.then C.chg,?_,C.st,λx s' e=>?_⟩,λx s' e=>(K.out x s' e).weak λk _ hk=>ay (by omega) hk⟩
 ·exact Out.up (f:=λn=>dz n (aS s)) C.out.out rfl λn=>by
   show ek (n+1) s=_;rw[ek,ax ⟨hk,by rw[ht];decide,by rw[ht];decide⟩,ap (by rw[ht];decide),ax ht]
 ·obtain⟨s0,e0,hl,hd⟩:=C.len x s' e
  cases e0;exact⟨s,rfl,by omega,hd⟩
theorem EG (N M:Nat) (hM:N+2<=M) (hE:fH M) (w:World) (P:Nat) (s:PS) (h:PG w P s) (hN:s.ts.length<=N+1) (hk:(hd s).kind=4) (ht:(hd s).text=yo):
  Calls prog 115 #[pB P] w (lW s P w):=by
 have K:=h.lt;have a1:1<=s.ts.length:=bc.2 h.ne;have c:Below w.heap.size w (w.alloc (.cells #[pB P] 51)):=az;obtain⟨n,C⟩:=(h.on c).head;generalize A:w.alloc (.cells #[pB P] 51)=w1 at c C;have i:=aa (show One w1 w.heap.size (pB P) 51 by rw[<- A];exact af _ _);rw[hk,ht]at C;have HH:=aa C;have q:=aa c;have I:=i.c;have a3:w.heap.size<w1.heap.size:=ab i.out;clear C c
 go_enter func115,ntmps115
 go_wp2_with fail;refine(cC w1 P _ _ _ _ n HH.out).mono ?_;rintro e u ⟨rfl,D⟩;have V:=D.size;have Q:=aa (q.trans (D.mono q.size));have k:=aa (i.below D);clear D A I;have I:=k.c;generalize b:u.alloc (.cells #[.int .i64 4,.string ⟨(yo:Tx).toArray⟩,.int .i64 n] 59)=v1;generalize d:v1.alloc (stC 0 [] false cM cM bX bX n)=v2;generalize f:v2.alloc (.cells #[pB (u.heap.size+1)] 195)=v3;have Y:v1.heap.size=u.heap.size+1:=by rw[<- b];exact ah _ _
 have Z:v2.heap.size=u.heap.size+1+1:=by rw[<- d,ah,Y]
 have z3:v3.heap.size=u.heap.size+1+1+1:=by rw[<- f,ah,Z]
 have J:Below u.heap.size u v1:=by rw[<- b];exact az
 have B:Below v1.heap.size v1 v2:=by rw[<- d];exact az
 have v:Below v2.heap.size v2 v3:=by rw[<- f];exact az
 have O:=aa (show TV v3 u.heap.size 4 yo n from((show TV v1 u.heap.size 4 yo n by rw[<- b];exact af _ _).below B).below v);have t2:v1.cell? ⟨u.heap.size,2,none⟩=some (.int .i64 n):=(show TV v1 u.heap.size 4 yo n by rw[<- b];exact af _ _).c.2.2;have HX:=aa (show StN v3 (u.heap.size+1) 0 [] false cM cM bX bX n from(show StN v2 (u.heap.size+1) 0 [] false cM cM bX bX n by rw[<- d,<- Y];exact af _ _).below v);have t:=aa (show One v3 (u.heap.size+1+1) (pB (u.heap.size+1)) 195 by rw[<- f,<- Z];exact af _ _);have g:=aa (show Below w.heap.size w v3 from(Q.trans ((J.trans (B.mono (by omega))).trans (v.mono (by omega)) |>.mono Q.size)));have l:=aa (show One v3 w.heap.size (pB P) 51 from k.below ((J.trans (B.mono (by omega))).trans (v.mono (by omega))));have p:=aa (h.on g.out);have a0:P<w.heap.size:=K;have a2:w.heap.size<u.heap.size:=by omega
 clear J B v;obtain⟨T,c1,c2⟩:=O.c;have X:=t.c;have R:=l.c;go_wp2_with fail;refine(jC v3 P (some s) p.out).mono ?_;rintro e z ⟨rfl,rfl⟩;clear b d f I t2;go_wp2_with fail;refine(dZ v3 P s p.out).mono ?_;rintro e y ⟨rfl,j,U⟩;have F:=aa U;have E:=aa ((Chg.of_below (S:=(·=P)) g.out).then j);have G:=aa (O.chg j (by omega));have H:=aa (HX.chg j (by omega));have a:=aa (t.chg j (by omega));have m:=aa (l.chg j (by omega));have L:(aS s).ts.length+1=s.ts.length:=d9 (h.long (by rw[hk];decide));have a4:u.heap.size+1+1<y.heap.size:=ab a.out;clear j U T c1 c2 X R;obtain⟨T,c1,c2⟩:=G.c;have X:=a.c;have R:=m.c;go_wp2_with fail;refine(jm M hE y P w.heap.size (u.heap.size+1+1) (u.heap.size+1) 6 0 [] false cM cM n (aS s) F.out (by omega) m.out a.out H.out (by omega) (by omega) (by omega) (by omega)).mono ?_;intro e z W;have HZ:=aa W;obtain⟨rfl,_⟩:=W;go_wp2_with fail;go_ret;refine HZ.fin E.out (by omega) (iH s) rfl Sm.out (λo ho=>(Out.map ho λr=>(Sm.out r.1,r.2)).stm λn=>?_) (λrb x hc hx hn=>?_)
 ·rw[ek,ax ⟨hk,by rw[ht];decide,by rw[ht];decide⟩,ap (by rw[ht];decide),ap (by rw[ht];decide),ap (by rw[ht];decide),ax ht]
 ·rw[ci];exact⟨by show w.heap.size<=_;omega,n,rb,hn,hx⟩
theorem Bz (N M:Nat) (hM:N+2<=M) (hE:fH M) (w:World) (P:Nat) (s:PS) (h:PG w P s) (hN:s.ts.length<=N+1) (hk:(hd s).kind=4) (ht:(hd s).text=nl):
  Calls prog 115 #[pB P] w (lW s P w):=by
 have K:=h.lt;have a1:1<=s.ts.length:=bc.2 h.ne;have c:Below w.heap.size w (w.alloc (.cells #[pB P] 51)):=az;obtain⟨n,C⟩:=(h.on c).head;generalize A:w.alloc (.cells #[pB P] 51)=w1 at c C;have i:=aa (show One w1 w.heap.size (pB P) 51 by rw[<- A];exact af _ _);rw[hk,ht]at C;have HH:=aa C;have q:=aa c;have I:=i.c;have a3:w.heap.size<w1.heap.size:=ab i.out;clear C c
 go_enter func115,ntmps115
 go_wp2_with fail;refine(cC w1 P _ _ _ _ n HH.out).mono ?_;rintro e u ⟨rfl,D⟩;have V:=D.size;have Q:=aa (q.trans (D.mono q.size));have k:=aa (i.below D);clear D A I;have I:=k.c;generalize b:u.alloc (.cells #[.int .i64 4,.string ⟨(nl:Tx).toArray⟩,.int .i64 n] 59)=v1;generalize d:v1.alloc (stC 0 [] false cM cM bX bX n)=v2;generalize f:v2.alloc (.cells #[pB (u.heap.size+1)] 195)=v3;have Y:v1.heap.size=u.heap.size+1:=by rw[<- b];exact ah _ _
 have Z:v2.heap.size=u.heap.size+1+1:=by rw[<- d,ah,Y]
 have z3:v3.heap.size=u.heap.size+1+1+1:=by rw[<- f,ah,Z]
 have J:Below u.heap.size u v1:=by rw[<- b];exact az
 have B:Below v1.heap.size v1 v2:=by rw[<- d];exact az
 have v:Below v2.heap.size v2 v3:=by rw[<- f];exact az
 have O:=aa (show TV v3 u.heap.size 4 nl n from((show TV v1 u.heap.size 4 nl n by rw[<- b];exact af _ _).below B).below v);have t2:v1.cell? ⟨u.heap.size,2,none⟩=some (.int .i64 n):=(show TV v1 u.heap.size 4 nl n by rw[<- b];exact af _ _).c.2.2;have HX:=aa (show StN v3 (u.heap.size+1) 0 [] false cM cM bX bX n from(show StN v2 (u.heap.size+1) 0 [] false cM cM bX bX n by rw[<- d,<- Y];exact af _ _).below v);have t:=aa (show One v3 (u.heap.size+1+1) (pB (u.heap.size+1)) 195 by rw[<- f,<- Z];exact af _ _);have g:=aa (show Below w.heap.size w v3 from(Q.trans ((J.trans (B.mono (by omega))).trans (v.mono (by omega)) |>.mono Q.size)));have l:=aa (show One v3 w.heap.size (pB P) 51 from k.below ((J.trans (B.mono (by omega))).trans (v.mono (by omega))));have p:=aa (h.on g.out);have a0:P<w.heap.size:=K;have a2:w.heap.size<u.heap.size:=by omega
 clear J B v;obtain⟨T,c1,c2⟩:=O.c;have X:=t.c;have R:=l.c;go_wp2_with fail;refine(jC v3 P (some s) p.out).mono ?_;rintro e z ⟨rfl,rfl⟩;clear b d f I t2;go_wp2_with fail;refine(dZ v3 P s p.out).mono ?_;rintro e y ⟨rfl,j,U⟩;have F:=aa U;have E:=aa ((Chg.of_below (S:=(·=P)) g.out).then j);have G:=aa (O.chg j (by omega));have H:=aa (HX.chg j (by omega));have a:=aa (t.chg j (by omega));have m:=aa (l.chg j (by omega));have L:(aS s).ts.length+1=s.ts.length:=d9 (h.long (by rw[hk];decide));have a4:u.heap.size+1+1<y.heap.size:=ab a.out;clear j U T c1 c2 X R;obtain⟨T,c1,c2⟩:=G.c;have X:=a.c;have R:=m.c;go_wp2_with fail;refine(jm M hE y P w.heap.size (u.heap.size+1+1) (u.heap.size+1) 7 0 [] false cM cM n (aS s) F.out (by omega) m.out a.out H.out (by omega) (by omega) (by omega) (by omega)).mono ?_;intro e z W;have HZ:=aa W;obtain⟨rfl,_⟩:=W;go_wp2_with fail;go_ret;refine HZ.fin E.out (by omega) (iH s) rfl Sm.free (λo ho=>(Out.map ho λr=>(Sm.free r.1,r.2)).stm λn=>?_) (λrb x hc hx hn=>?_)
 ·rw[ek,ax ⟨hk,by rw[ht];decide,by rw[ht];decide⟩,ap (by rw[ht];decide),ap (by rw[ht];decide),ap (by rw[ht];decide),ap (by rw[ht];decide),ax ht]
 ·rw[ci];exact⟨by show w.heap.size<=_;omega,n,rb,hn,hx⟩
theorem zT (N M:Nat) (hM:N+2<=M) (hE:fH M) (w:World) (P:Nat) (s:PS) (h:PG w P s) (hN:s.ts.length<=N+1) (hk:(hd s).kind=4) (ht:(hd s).text=jY):
  Calls prog 115 #[pB P] w (lW s P w):=by
 have X:=h.lt;have a2:1<=s.ts.length:=bc.2 h.ne;have d:Below w.heap.size w (w.alloc (.cells #[pB P] 51)):=az;obtain⟨n,L⟩:=(h.on d).head;generalize J:w.alloc (.cells #[pB P] 51)=w1 at d L;have m:=aa (show One w1 w.heap.size (pB P) 51 by rw[<- J];exact af _ _);rw[hk,ht]at L;have HH:=aa L;have D:=aa d;have V:=m.c;have a4:w.heap.size<w1.heap.size:=ab m.out;clear L d
 go_enter func115,ntmps115
 go_wp2_with fail;refine(cC w1 P _ _ _ _ n HH.out).mono ?_;rintro e u ⟨rfl,O⟩;have a0:=O.size;have HU:=aa (D.trans (O.mono D.size));have r:=aa (m.below O);clear O J V;have V:=r.c;generalize b:u.alloc (.cells #[.int .i64 4,.string ⟨(jY:Tx).toArray⟩,.int .i64 n] 59)=v1;generalize g:v1.alloc (stC 0 [] false cM cM bX bX n)=v2;generalize i:v2.alloc (.cells #[pB (u.heap.size+1)] 195)=v3;have z1:v1.heap.size=u.heap.size+1:=by rw[<- b];exact ah _ _
 have z2:v2.heap.size=u.heap.size+1+1:=by rw[<- g,ah,z1]
 have z3:v3.heap.size=u.heap.size+1+1+1:=by rw[<- i,ah,z2]
 have W:Below u.heap.size u v1:=by rw[<- b];exact az
 have K:Below v1.heap.size v1 v2:=by rw[<- g];exact az
 have H:Below v2.heap.size v2 v3:=by rw[<- i];exact az
 have Z:=aa (show TV v3 u.heap.size 4 jY n from((show TV v1 u.heap.size 4 jY n by rw[<- b];exact af _ _).below K).below H);have t2:v1.cell? ⟨u.heap.size,2,none⟩=some (.int .i64 n):=(show TV v1 u.heap.size 4 jY n by rw[<- b];exact af _ _).c.2.2;have HX:=aa (show StN v3 (u.heap.size+1) 0 [] false cM cM bX bX n from(show StN v2 (u.heap.size+1) 0 [] false cM cM bX bX n by rw[<- g,<- z1];exact af _ _).below H);have G:=aa (show One v3 (u.heap.size+1+1) (pB (u.heap.size+1)) 195 by rw[<- i,<- z2];exact af _ _);have k:=aa (show Below w.heap.size w v3 from(HU.trans ((W.trans (K.mono (by omega))).trans (H.mono (by omega)) |>.mono HU.size)));have t:=aa (show One v3 w.heap.size (pB P) 51 from r.below ((W.trans (K.mono (by omega))).trans (H.mono (by omega))));have C:=aa (h.on k.out);have a1:P<w.heap.size:=X;have a3:w.heap.size<u.heap.size:=by omega
 clear W K H;obtain⟨c0,c1,c2⟩:=Z.c;have x0:=G.c;have b1:=t.c;go_wp2_with fail;refine(jC v3 P (some s) C.out).mono ?_;rintro e z ⟨rfl,rfl⟩;clear b g i V t2;go_wp2_with fail;refine(dZ v3 P s C.out).mono ?_;rintro e y ⟨rfl,o,I⟩;have T:=aa I;have R:=aa ((Chg.of_below (S:=(·=P)) k.out).then o);have U:=aa (Z.chg o (by omega));have c:=aa (HX.chg o (by omega));have a:=aa (G.chg o (by omega));have v:=aa (t.chg o (by omega));have Y:(aS s).ts.length+1=s.ts.length:=d9 (h.long (by rw[hk];decide));have a5:u.heap.size+1+1<y.heap.size:=ab a.out;clear o I c0 c1 c2 x0 b1;obtain⟨c0,c1,c2⟩:=U.c;have x0:=a.c;have b1:=v.c;have f0:=c.free 0;have n0:y.cell? ⟨u.heap.size+1,0,none⟩=some (.int .i64 0):=(ae c.out 0).trans rfl;have B:=aa (T.setOther c.out (by decide) (by omega) 0 (.int .i64 8));have E:=aa (show StN (y.setCell ⟨u.heap.size+1,0,none⟩ (.int .i64 8)) (u.heap.size+1) 8 [] false cM cM bX bX n from aA (j:=0) c.out _);have A:=aa (R.setCell (p:=⟨u.heap.size+1,0,none⟩) (λe=>absurd e (by show¬(u.heap.size+1<w.heap.size);omega)) (.int .i64 8));have q:=aa (v.setOther (p:=⟨u.heap.size+1,0,none⟩) (by show u.heap.size+1≠_;omega) (.int .i64 8));have l:=aa (a.setOther (p:=⟨u.heap.size+1,0,none⟩) (by show u.heap.size+1≠_;omega) (.int .i64 8));go_wp2_with fail;generalize hq:y.setCell ⟨u.heap.size+1,0,none⟩ (.int .i64 8)=y2 at B E A q l;have b2:=q.c;go_wp2_with fail;refine(uL y2 P (some (aS s)) B.out bU).mono ?_;rintro e z ⟨rfl,Q,I⟩;have HZ:=aa Q;have HG:=aa I;have x2:=(l.chg Q (by omega)).c;have F:=aa (E.chg Q (by omega));clear Q I b2 hq;go_wp2_with fail;go_ret;refine⟨u.heap.size+1,(bP bU (aS s)).map λs2=>(Sm.drain,s2),rfl,by omega,ab F.out,⟨A.then HZ.out,?_,?_,?_⟩,?_⟩
 ·refine Out.stm (f:=λ_=>(bP bU (aS s)).map λs2=>(Sm.drain,s2)) (Out.const _) λn=>?_
  rw[ek,ax ⟨hk,by rw[ht];decide,by rw[ht];decide⟩,ap (by rw[ht];decide),ap (by rw[ht];decide),ap (by rw[ht];decide),ap (by rw[ht];decide),ap (by rw[ht];decide),ax ht];cases bP bU (aS s)<;>rfl
 ·have:=HG.out
  rw[aj]at this;cases hm:bP bU (aS s)with
  | none=>rw[hm]at this;exact this
  | some s2=>rw[hm]at this;exact this
 ·intro x s' e
  cases hm:bP bU (aS s)with
  | none=>rw[hm]at e;cases e
  | some s2=>rw[hm]at e;cases e;have:=lH hm;exact⟨s,rfl,by omega,this.2⟩
 ·intro x s' e
  cases hm:bP bU (aS s)with
  | none=>rw[hm]at e;cases e
  | some s2=>rw[hm]at e;cases e;rw[ci];exact⟨by show w.heap.size<=_;omega,n,F.out⟩
theorem wq (N M:Nat) (hM:N+2<=M) (hE:fH M) (w:World) (P:Nat) (s:PS) (h:PG w P s) (hN:s.ts.length<=N+1) (hk:(hd s).kind=4) (ht:(hd s).text=fS):
  Calls prog 115 #[pB P] w (lW s P w):=by
 have a5:=h.lt;have a9:1<=s.ts.length:=bc.2 h.ne;have i:Below w.heap.size w (w.alloc (.cells #[pB P] 51)):=az;obtain⟨n,V⟩:=(h.on i).head;generalize R:w.alloc (.cells #[pB P] 51)=w1 at i V;have t:=aa (show One w1 w.heap.size (pB P) 51 by rw[<- R];exact af _ _);rw[hk,ht]at V;have HH:=aa V;have J:=aa i;have b0:=t.c;have ag:w.heap.size<w1.heap.size:=ab t.out;clear V i
 go_enter func115,ntmps115
 go_wp2_with fail;refine(cC w1 P _ _ _ _ n HH.out).mono ?_;rintro e u ⟨rfl,W⟩;have a7:=W.size;have HU:=aa (J.trans (W.mono J.size));have C:=aa (t.below W);clear W R b0;have b0:=C.c;generalize d:u.alloc (.cells #[.int .i64 4,.string ⟨(fS:Tx).toArray⟩,.int .i64 n] 59)=v1;generalize k:v1.alloc (stC 0 [] false cM cM bX bX n)=v2;generalize l:v2.alloc (.cells #[pB (u.heap.size+1)] 195)=v3;have z1:v1.heap.size=u.heap.size+1:=by rw[<- d];exact ah _ _
 have z2:v2.heap.size=u.heap.size+1+1:=by rw[<- k,ah,z1]
 have z3:v3.heap.size=u.heap.size+1+1+1:=by rw[<- l,ah,z2]
 have e1:Below u.heap.size u v1:=by rw[<- d];exact az
 have U:Below v1.heap.size v1 v2:=by rw[<- k];exact az
 have O:Below v2.heap.size v2 v3:=by rw[<- l];exact az
 have HT:=aa (show TV v3 u.heap.size 4 fS n from((show TV v1 u.heap.size 4 fS n by rw[<- d];exact af _ _).below U).below O);have t2:v1.cell? ⟨u.heap.size,2,none⟩=some (.int .i64 n):=(show TV v1 u.heap.size 4 fS n by rw[<- d];exact af _ _).c.2.2;have HX:=aa (show StN v3 (u.heap.size+1) 0 [] false cM cM bX bX n from(show StN v2 (u.heap.size+1) 0 [] false cM cM bX bX n by rw[<- k,<- z1];exact af _ _).below O);have L:=aa (show One v3 (u.heap.size+1+1) (pB (u.heap.size+1)) 195 by rw[<- l,<- z2];exact af _ _);have m:=aa (show Below w.heap.size w v3 from(HU.trans ((e1.trans (U.mono (by omega))).trans (O.mono (by omega)) |>.mono HU.size)));have D:=aa (show One v3 w.heap.size (pB P) 51 from C.below ((e1.trans (U.mono (by omega))).trans (O.mono (by omega))));have H:=aa (h.on m.out);have a8:P<w.heap.size:=a5;have ad:w.heap.size<u.heap.size:=by omega
 clear e1 U O;obtain⟨c0,c1,c2⟩:=HT.c;have Y:=L.c;have T:=D.c;go_wp2_with fail;refine(jC v3 P (some s) H.out).mono ?_;rintro e z ⟨rfl,rfl⟩;clear d k l b0 t2;go_wp2_with fail;refine(dZ v3 P s H.out).mono ?_;rintro e y ⟨rfl,B,hg⟩;have a2:=aa hg;have a0:=aa ((Chg.of_below (S:=(·=P)) m.out).then B);have a3:=aa (HT.chg B (by omega));have a4:=aa (HX.chg B (by omega));have a:=aa (L.chg B (by omega));have E:=aa (D.chg B (by omega));have a6:(aS s).ts.length+1=s.ts.length:=d9 (h.long (by rw[hk];decide));have ai:u.heap.size+1+1<y.heap.size:=ab a.out;clear B hg c0 c1 c2 Y T;obtain⟨c0,c1,c2⟩:=a3.c;have Y:=a.c;have T:=E.c;go_wp2_with fail;refine(p9 y P (some (aS s)) a2.out bU).mono ?_;rintro e z ⟨rfl,q,Q⟩;have G:=aa (a0.then q);have c:=aa (a4.chg q (by omega));have b:=aa (a.chg q (by omega));have F:=aa (E.chg q (by omega));have I:=aa Q;clear q Q c0 c1 c2 Y T;have Y:=b.c;have T:=F.c;obtain⟨X,A⟩:∃X,isO bU (some (aS s))=X:=⟨_,rfl⟩;have g:=aa (show isW bU (aS s)=X from A);rw[A];clear A;cases X with
 | true =>
  have v:=aa (show PG z P (aS (aS s)) from by have:=I.out;rw[ny g.out]at this;exact this);have f0:=c.free 0;have n0:z.cell? ⟨u.heap.size+1,0,none⟩=some (.int .i64 0):=(ae c.out 0).trans rfl;have a1:=aa (v.setOther c.out (by decide) (by omega) 0 (.int .i64 9));have K:=aa (show StN (z.setCell ⟨u.heap.size+1,0,none⟩ (.int .i64 9)) (u.heap.size+1) 9 [] false cM cM bX bX n from aA (j:=0) c.out _);have Z:=aa (G.setCell (p:=⟨u.heap.size+1,0,none⟩) (λe=>absurd e (by show¬(u.heap.size+1<w.heap.size);omega)) (.int .i64 9));have x3:=(b.setOther (p:=⟨u.heap.size+1,0,none⟩) (by show u.heap.size+1≠_;omega) (.int .i64 9)).c;have ac:=iH (aS s);go_wp2_with fail;go_ret;refine⟨u.heap.size+1,some (Sm.ret none,aS (aS s)),rfl,by omega,ab K.out,⟨Z.out,?_,a1.out,?_⟩,?_⟩
  ·refine Out.stm (f:=λ_=>some (Sm.ret none,aS (aS s))) (Out.const _) λn=>?_
   rw[ek,ax ⟨hk,by rw[ht];decide,by rw[ht];decide⟩,ap (by rw[ht];decide),ap (by rw[ht];decide),ap (by rw[ht];decide),ap (by rw[ht];decide),ap (by rw[ht];decide),ap (by rw[ht];decide),ax ht,ax g.out]
  ·intro x s' e;cases e;exact⟨s,rfl,by omega,rfl⟩
  ·intro x s' e;cases e;rw[ci];exact⟨by show w.heap.size<=_;omega,n,K.out⟩
 | false =>
  have v:=aa (show PG z P (aS s) from by have:=I.out;rw[pG (show isO bU (some (aS s))=false from g.out)]at this;exact this);go_wp2_with fail;refine(jm M hE z P w.heap.size (u.heap.size+1+1) (u.heap.size+1) 9 0 [] false cM cM n (aS s) v.out (by omega) F.out b.out c.out (by omega) (by omega) (by omega) (by omega)).mono ?_;intro e z2 q;have HZ:=aa q;obtain⟨rfl,_⟩:=q;go_wp2_with fail;go_ret;refine HZ.fin G.out (by omega) (iH s) rfl (λx=>Sm.ret (some x)) (λo ho=>(Out.map ho λr=>(Sm.ret (some r.1),r.2)).stm λn=>?_) (λrb x hc hx hn=>?_)
  ·rw[ek,ax ⟨hk,by rw[ht];decide,by rw[ht];decide⟩,ap (by rw[ht];decide),ap (by rw[ht];decide),ap (by rw[ht];decide),ap (by rw[ht];decide),ap (by rw[ht];decide),ap (by rw[ht];decide),ax ht,ap (by rw[g.out];decide)]
  ·rw[ci];exact⟨by show w.heap.size<=_;omega,n,rb,hn,hx⟩
theorem EF (N M:Nat) (hM:N+2<=M) (hE:fH M) (w:World) (P:Nat) (s:PS) (h:PG w P s) (hN:s.ts.length<=N+1) (hk:(hd s).kind=4) (ht:(hd s).text=tV):
  Calls prog 115 #[pB P] w (lW s P w):=by
 have aI:=h.lt;have aU:1<=s.ts.length:=bc.2 h.ne;have H:Below w.heap.size w (w.alloc (.cells #[pB P] 51)):=az;obtain⟨n,hh⟩:=(h.on H).head;generalize aw:w.alloc (.cells #[pB P] 51)=w1 at H hh;have U:=aa (show One w1 w.heap.size (pB P) 51 by rw[<- aw];exact af _ _);rw[hk,ht]at hh;have HH:=aa hh;have ar:=aa H;have b0:=U.c;have aW:w.heap.size<w1.heap.size:=ab U.out;clear hh H
 go_enter func115,ntmps115
 go_wp2_with fail;refine(cC w1 P _ _ _ _ n HH.out).mono ?_;rintro e u ⟨rfl,hu⟩;have aP:=hu.size;have HU:=aa (ar.trans (hu.mono ar.size));have a8:=aa (U.below hu);clear hu aw b0;have b0:=a8.c;generalize F:u.alloc (.cells #[.int .i64 4,.string ⟨(tV:Tx).toArray⟩,.int .i64 n] 59)=v1;generalize K:v1.alloc (stC 0 [] false cM cM bX bX n)=v2;generalize L:v2.alloc (.cells #[pB (u.heap.size+1)] 195)=v3;have z1:v1.heap.size=u.heap.size+1:=by rw[<- F];exact ah _ _
 have z2:v2.heap.size=u.heap.size+1+1:=by rw[<- K,ah,z1]
 have z3:v3.heap.size=u.heap.size+1+1+1:=by rw[<- L,ah,z2]
 have e1:Below u.heap.size u v1:=by rw[<- F];exact az
 have e2:Below v1.heap.size v1 v2:=by rw[<- K];exact az
 have e3:Below v2.heap.size v2 v3:=by rw[<- L];exact az
 have HT:=aa (show TV v3 u.heap.size 4 tV n from((show TV v1 u.heap.size 4 tV n by rw[<- F];exact af _ _).below e2).below e3);have t2:v1.cell? ⟨u.heap.size,2,none⟩=some (.int .i64 n):=(show TV v1 u.heap.size 4 tV n by rw[<- F];exact af _ _).c.2.2;have HX:=aa (show StN v3 (u.heap.size+1) 0 [] false cM cM bX bX n from(show StN v2 (u.heap.size+1) 0 [] false cM cM bX bX n by rw[<- K,<- z1];exact af _ _).below e3);have au:=aa (show One v3 (u.heap.size+1+1) (pB (u.heap.size+1)) 195 by rw[<- L,<- z2];exact af _ _);have R:=aa (show Below w.heap.size w v3 from(HU.trans ((e1.trans (e2.mono (by omega))).trans (e3.mono (by omega)) |>.mono HU.size)));have a9:=aa (show One v3 w.heap.size (pB P) 51 from a8.below ((e1.trans (e2.mono (by omega))).trans (e3.mono (by omega))));have ao:=aa (h.on R.out);have aM:P<w.heap.size:=aI;have aV:w.heap.size<u.heap.size:=by omega
 clear e1 e2 e3;obtain⟨c0,c1,c2⟩:=HT.c;have Q:=au.c;have v:=a9.c;go_wp2_with fail;refine(jC v3 P (some s) ao.out).mono ?_;rintro e z ⟨rfl,rfl⟩;clear F K L b0 t2;go_wp2_with fail;refine(dZ v3 P s ao.out).mono ?_;rintro e y ⟨rfl,hy,hg⟩;have aq:=aa hg;have ay:=aa ((Chg.of_below (S:=(·=P)) R.out).then hy);have aG:=aa (HT.chg hy (by omega));have aH:=aa (HX.chg hy (by omega));have t:=aa (au.chg hy (by omega));have ac:=aa (a9.chg hy (by omega));have aL:(aS s).ts.length+1=s.ts.length:=d9 (h.long (by rw[hk];decide));have aX:u.heap.size+1+1<y.heap.size:=ab t.out;clear hy hg c0 c1 c2 Q v;obtain⟨c0,c1,c2⟩:=aG.c;have Q:=t.c;have v:=ac.c;have HF:=aa (show SFr w y P (u.heap.size+1) (u.heap.size+1+1) (some (aS s)) from⟨ay.out,aq.out,ac.out,t.out,aM,by omega,by omega⟩);have HC:Hid (Calls prog 60 #[pB P] y.drew λe q=>e=.returned (.string ⟨(nmO (some (aS s))).toArray⟩)/\(q.cell? ⟨w.heap.size,0,none⟩=some (pB P)/\q.cell? ⟨u.heap.size+1+1,0,none⟩=some (pB (u.heap.size+1))) /\
   (q.cell? ⟨u.heap.size+1,0,none⟩=some (.int .i64 0)/\q.frozen? ⟨u.heap.size+1,0,none⟩=false/\q.cell? ⟨u.heap.size+1,1,none⟩=some (.string ⟨#[]⟩)/\q.frozen? ⟨u.heap.size+1,1,none⟩=false) /\
   Hid (SFr w q P (u.heap.size+1) (u.heap.size+1+1) ((cR (aS s)).map (·.2))/\StN q (u.heap.size+1) 0 [] false cM cM bX bX n)):=by
  refine(CD y.drew P (some (aS s)) (aq.on (ai _ _).drew)).mono ?_;rintro e q ⟨rfl,hc,m⟩;have A:Chg (·=P) y q:=(Chg.of_below (ai _ _).drew).then hc;have c:=HF.go A m;have hn:=aH.chg A (by omega);exact⟨rfl,c.cs,⟨hn.cell 0,hn.free 0,hn.cell 1,hn.free 1⟩,c,hn⟩
 go_wp2_with fail
 go_region_held3 (λw'=>w'.cell? ⟨w.heap.size,0,none⟩=some (pB P)/\w'.cell? ⟨u.heap.size+1+1,0,none⟩=some (pB (u.heap.size+1)))
  (first
   | (exact⟨v,Q⟩)
   | (exact⟨g0,g1⟩)
   | (exact T.out.1.cs1 _ _)
   | (exact T.out.1.cs2 _ _ _ _)
   | go_keep)
  (first
   | (go_at_call 60;refine HC.mono ?_;rintro e q ⟨rfl,⟨g0,g1⟩,⟨g2,g3,g4,g5⟩,T⟩))
 obtain⟨l,a3⟩:=T.out;have aE:Hid (nmO (some (aS s))=nmO (some (aS s))):=rfl;obtain⟨nm,a2⟩:∃nm,nmO (some (aS s))=nm:=⟨_,rfl⟩;have am:=aa a2;obtain⟨d,a⟩:∃d,(cR (aS s)).map (·.2)=d:=⟨_,rfl⟩;have i:=aa a;rw[a2];rw[a]at l;have Z:StN (q.setCell ⟨u.heap.size+1,0,none⟩ (.int .i64 1)) (u.heap.size+1) 1 [] false cM cM bX bX n:=aA (j:=0) a3 _;have a0:StN ((q.setCell ⟨u.heap.size+1,0,none⟩ (.int .i64 1)).setCell ⟨u.heap.size+1,1,none⟩ (.string ⟨nm.toArray⟩)) (u.heap.size+1) 1 nm false cM cM bX bX n:=aA (j:=1) Z _;have I:=(l.set a3 0 (.int .i64 1)).set Z 1 (.string ⟨nm.toArray⟩);clear T Z l a3 a2 a HC g0 g1 g2 g3 g4 g5 v Q c0 c1 c2 aE;generalize aN:(q.setCell ⟨u.heap.size+1,0,none⟩ (.int .i64 1)).setCell ⟨u.heap.size+1,1,none⟩ (.string ⟨nm.toArray⟩)=q2 at a0 I;clear aN;have aC:=aa a0;have ae:=aa I;obtain⟨v,Q⟩:=I.cs;have HC:Hid (Calls prog 63 #[pB P,.string ⟨#[112,116,114]⟩] q2.drew λe r=>e=.returned (.bool (isO cY d))/\(r.cell? ⟨w.heap.size,0,none⟩=some (pB P)/\r.cell? ⟨u.heap.size+1+1,0,none⟩=some (pB (u.heap.size+1))) /\
   (r.cell? ⟨u.heap.size+1,2,none⟩=some (.bool false)/\r.frozen? ⟨u.heap.size+1,2,none⟩=false) /\
   Hid (SFr w r P (u.heap.size+1) (u.heap.size+1+1) (iO cY d)/\StN r (u.heap.size+1) 1 nm false cM cM bX bX n)):=by
  refine(p9 q2.drew P d (ae.po.on (ai _ _).drew) cY).mono ?_;rintro e r ⟨rfl,hc,m⟩;have A:Chg (·=P) q2 r:=(Chg.of_below (ai _ _).drew).then hc;have c:=ae.go A m;have hn:=aC.chg A (by omega);exact⟨rfl,c.cs,⟨hn.cell 2,hn.free 2⟩,c,hn⟩
 clear a0 I;go_wp2_with fail
 go_region_held3 (λw'=>w'.cell? ⟨w.heap.size,0,none⟩=some (pB P)/\w'.cell? ⟨u.heap.size+1+1,0,none⟩=some (pB (u.heap.size+1)))
  (first
   | (exact⟨v,Q⟩)
   | (exact⟨g0,g1⟩)
   | (exact T.out.1.cs1 _ _)
   | go_keep)
  (first
   | (go_at_call 63;refine HC.mono ?_;rintro e r ⟨rfl,⟨g0,g1⟩,⟨g2,g3⟩,T⟩))
 obtain⟨l,a4⟩:=T.out;obtain⟨g,a5⟩:∃g,isO cY d=g:=⟨_,rfl⟩;have an:=aa a5;rw[a5];have a1:StN (r.setCell ⟨u.heap.size+1,2,none⟩ (.bool g)) (u.heap.size+1) 1 nm g cM cM bX bX n:=aA (j:=2) a4 _;have J:=l.set a4 2 (.bool g);clear T l a4 HC g0 g1 g2 g3 v Q a5;generalize aO:r.setCell ⟨u.heap.size+1,2,none⟩ (.bool g)=r2 at a1 J;clear aO;have aD:=aa a1;have ag:=aa J;have v:=J.cs.1;clear a1 J;go_wp2_with fail;refine(p9 r2 P _ ag.po wEq).mono ?_;rintro e z ⟨rfl,G,m⟩;have b:=aa (ag.go G m);have ak:=aa (aD.chg G (by omega));clear G m v;obtain⟨ii,B⟩:∃ii,isO wEq (iO cY d)=ii:=⟨_,rfl⟩;have W:=aa B;rw[B];clear B;have ad:Hid (∀n,ek (n+1) s=(cR (aS s)).bind λr=>if isW wEq (cF cY r.2).2=true then(dy n (aS (cF cY r.2).2)).bind λe=>some (.var r.1 (cF cY r.2).1 (some e.1),e.2)else(bP bU (cF cY r.2).2).bind λs4=>some (.var r.1 (cF cY r.2).1 none,s4)):=λn=>by
  rw[ek,ax ⟨hk,by rw[ht];decide,by rw[ht];decide⟩,ax ht]
 cases ii with
 | true =>
  obtain⟨s3,a6,a7⟩:=zl W.out;obtain⟨⟨O,p⟩,D⟩:∃r,cR (aS s)=some r:=by
   cases c:cR (aS s)with
   | none=>have:=i.out;rw[c]at this;subst this;cases a6
   | some r=>exact⟨r,rfl⟩
  have a:d=some p:=by have:=i.out;rw[D]at this;exact this.symm
  subst a;have av:s3=(cF cY p).2:=by have:some (cF cY p).2=some s3:=a6;exact(aT this).symm
  subst av;have C:O=nm:=by have:=am.out;unfold nmO at this;rw[aj,D]at this;exact this
  subst C;have E:(cF cY p).1=g:=by rw[<- an.out];exact nu cY p
  have X:=aa (show PG z P (aS (cF cY p).2) from by have:=b.po;rw[show iO wEq (iO cY (some p))=some (aS (cF cY p).2) from ny a7]at this;exact this);have Y:=qH D;have aK:=nt cY p;have aQ:=iH (cF cY p).2;have aR:p.ts.length<=(aS s).ts.length:=Y.1;have aJ:p.d=(aS s).d:=Y.2;have aB:=aa a7;have aF:=aa D;clear a6 a7 D Y;go_wp2_with fail;refine(jm M hE z P w.heap.size (u.heap.size+1+1) (u.heap.size+1) 1 1 O g cM cM n (aS (cF cY p).2) X.out (by omega) b.b b.xb ak.out (by omega) (by omega) (by omega) (by omega)).mono ?_;intro e z2 G;have HZ:=aa G;obtain⟨rfl,_⟩:=G;go_wp2_with fail;go_ret;refine HZ.fin b.chg (by omega) (by omega) (aK.2.trans aJ) (λx=>Sm.var O g (some x)) (λo ho=>(Out.map ho λr=>(Sm.var O g (some r.1),r.2)).stm λn=>?_) (λrb x hc hx hn=>?_)
  ·rw[ad.out,aF.out,aj,ax aB.out,E]
  ·rw[ci];exact⟨by show w.heap.size<=_;omega,n,rb,hn,hx⟩
 | false =>
  have X:=aa (show PO z P (iO cY d) from by have:=b.po;rw[pG W.out]at this;exact this);obtain⟨v,Q⟩:=b.cs;go_wp2_with fail;refine(uL z P _ X.out bU).mono ?_;rintro e z2 ⟨rfl,G,hg⟩;have V:=aa (b.go G hg);have al:=aa (ak.chg G (by omega));have x1:=V.cs.2;clear G hg v Q;go_wp2_with fail;go_ret;have hF:∀k,ek (k+1) s=((iO cY d).bind (bP bU)).map λs4=>(Sm.var nm g none,s4):=λk=>by
   rw[ad.out];cases c:cR (aS s)with
   | none=>have:=i.out;rw[c]at this;subst this;rfl
   | some r =>
    have a:=i.out;rw[c]at a;subst a;have C:r.1=nm:=by have:=am.out;unfold nmO at this;rw[aj,c]at this;exact this
    have E:(cF cY r.2).1=g:=by rw[<- an.out];exact nu cY r.2
    have B:isW wEq (cF cY r.2).2=false:=W.out;rw[aj,ap (by rw[B];decide),C,E];show _=(bP bU (cF cY r.2).2).map _;cases bP bU (cF cY r.2).2<;>rfl
  refine⟨u.heap.size+1,((iO cY d).bind (bP bU)).map λs4=>(Sm.var nm g none,s4),rfl,by omega,ab al.out,⟨V.chg,?_,?_,?_⟩,?_⟩
  ·exact Out.stm (f:=λ_=>((iO cY d).bind (bP bU)).map λs4=>(Sm.var nm g none,s4)) (Out.const _) hF
  ·have:=V.po
   cases hm:(iO cY d).bind (bP bU)with
   | none=>rw[hm]at this;exact this
   | some s4=>rw[hm]at this;exact this
  ·intro x s' e
   cases hm:(iO cY d).bind (bP bU)with
   | none=>rw[hm]at e;cases e
   | some s4 =>
    rw[hm]at e;cases e;cases c:cR (aS s)with
    | none=>have:=i.out;rw[c]at this;subst this;cases hm
    | some r =>
     have a:=i.out;rw[c]at a;subst a;have h1:=qH c;have h2:=nt cY r.2;have h3:=lH (show bP bU (cF cY r.2).2=some _ from hm);exact⟨s,rfl,by omega,h3.2.trans (h2.2.trans h1.2)⟩
  ·intro x s' e
   cases hm:(iO cY d).bind (bP bU)with
   | none=>rw[hm]at e;cases e
   | some s4=>rw[hm]at e;cases e;rw[ci];exact⟨by show w.heap.size<=_;omega,n,al.out⟩
theorem zR (N M:Nat) (hM:N+2<=M) (hE:fH M) (hBl:Ei N) (w:World) (P:Nat) (s:PS) (h:PG w P s) (hN:s.ts.length<=N+1) (hk:(hd s).kind=4) (ht:(hd s).text=jI):
  Calls prog 115 #[pB P] w (lW s P w):=by
 have aq:=h.lt;have aE:1<=s.ts.length:=bc.2 h.ne;have C:Below w.heap.size w (w.alloc (.cells #[pB P] 51)):=az;obtain⟨n,hh⟩:=(h.on C).head;generalize ag:w.alloc (.cells #[pB P] 51)=w1 at C hh;have Q:=aa (show One w1 w.heap.size (pB P) 51 by rw[<- ag];exact af _ _);rw[hk,ht]at hh;have HH:=aa hh;have a9:=aa C;have b0:=Q.c;have aG:w.heap.size<w1.heap.size:=ab Q.out;clear hh C
 go_enter func115,ntmps115
 go_wp2_with fail;refine(cC w1 P _ _ _ _ n HH.out).mono ?_;rintro e u ⟨rfl,hu⟩;have aw:=hu.size;have HU:=aa (a9.trans (hu.mono a9.size));have a0:=aa (Q.below hu);clear hu ag b0;have b0:=a0.c;generalize A:u.alloc (.cells #[.int .i64 4,.string ⟨(jI:Tx).toArray⟩,.int .i64 n] 59)=v1;generalize G:v1.alloc (stC 0 [] false cM cM bX bX n)=v2;generalize H:v2.alloc (.cells #[pB (u.heap.size+1)] 195)=v3;have z1:v1.heap.size=u.heap.size+1:=by rw[<- A];exact ah _ _
 have z2:v2.heap.size=u.heap.size+1+1:=by rw[<- G,ah,z1]
 have z3:v3.heap.size=u.heap.size+1+1+1:=by rw[<- H,ah,z2]
 have e1:Below u.heap.size u v1:=by rw[<- A];exact az
 have e2:Below v1.heap.size v1 v2:=by rw[<- G];exact az
 have e3:Below v2.heap.size v2 v3:=by rw[<- H];exact az
 have HT:=aa (show TV v3 u.heap.size 4 jI n from((show TV v1 u.heap.size 4 jI n by rw[<- A];exact af _ _).below e2).below e3);have t2:v1.cell? ⟨u.heap.size,2,none⟩=some (.int .i64 n):=(show TV v1 u.heap.size 4 jI n by rw[<- A];exact af _ _).c.2.2;have HX:=aa (show StN v3 (u.heap.size+1) 0 [] false cM cM bX bX n from(show StN v2 (u.heap.size+1) 0 [] false cM cM bX bX n by rw[<- G,<- z1];exact af _ _).below e3);have ac:=aa (show One v3 (u.heap.size+1+1) (pB (u.heap.size+1)) 195 by rw[<- H,<- z2];exact af _ _);have L:=aa (show Below w.heap.size w v3 from(HU.trans ((e1.trans (e2.mono (by omega))).trans (e3.mono (by omega)) |>.mono HU.size)));have a1:=aa (show One v3 w.heap.size (pB P) 51 from a0.below ((e1.trans (e2.mono (by omega))).trans (e3.mono (by omega))));have a6:=aa (h.on L.out);have au:P<w.heap.size:=aq;have aF:w.heap.size<u.heap.size:=by omega
 clear e1 e2 e3;obtain⟨c0,c1,c2⟩:=HT.c;have Z:=ac.c;have U:=a1.c;go_wp2_with fail;refine(jC v3 P (some s) a6.out).mono ?_;rintro e z ⟨rfl,rfl⟩;clear A G H b0 t2;go_wp2_with fail;refine(dZ v3 P s a6.out).mono ?_;rintro e y ⟨rfl,hy,hg⟩;have a7:=aa hg;have aj:=aa ((Chg.of_below (S:=(·=P)) L.out).then hy);have al:=aa (HT.chg hy (by omega));have an:=aa (HX.chg hy (by omega));have t:=aa (ac.chg hy (by omega));have a2:=aa (a1.chg hy (by omega));have ar:(aS s).ts.length+1=s.ts.length:=d9 (h.long (by rw[hk];decide));have aH:u.heap.size+1+1<y.heap.size:=ab t.out;clear hy hg c0 c1 c2 Z U;obtain⟨c0,c1,c2⟩:=al.c;have Z:=t.c;have U:=a2.c;have HF:=aa (show SFr w y P (u.heap.size+1) (u.heap.size+1+1) (some (aS s)) from⟨aj.out,a7.out,a2.out,t.out,au,by omega,by omega⟩);have HC:Hid (Calls prog 169 #[pB P,.int .i64 1] y.drew λe q=>∃i,e=.returned (pB i)/\(q.cell? ⟨w.heap.size,0,none⟩=some (pB P)/\q.cell? ⟨u.heap.size+1+1,0,none⟩=some (pB (u.heap.size+1))) /\
   (q.cell? ⟨u.heap.size+1,0,none⟩=some (.int .i64 0)/\q.frozen? ⟨u.heap.size+1,0,none⟩=false/\q.cell? ⟨u.heap.size+1,4,none⟩=some cM/\q.frozen? ⟨u.heap.size+1,4,none⟩=false) /\
   Hid (∃d,Out (λn=>cZ n 1 (aS s)) d/\SFr w q P (u.heap.size+1) (u.heap.size+1+1) (d.map (·.2))/\StN q (u.heap.size+1) 0 [] false cM cM bX bX n/\∀x b,d=some (x,b)->bK q (Ge (u.heap.size+1+1)) i x/\b.ts.length+1<=(aS s).ts.length/\b.d=s.d)):=by
  refine(Dt M hE y.drew P (some (aS s)) 1 (a7.on (ai _ _).drew) (λb e=>by cases e;omega)).mono ?_;rintro e q ⟨i,d,rfl,aC,aD,c,O⟩;have m:Chg (·=P) y q:=(Chg.of_below (ai _ _).drew).then c.chg;have hq:=HF.go m c.st;have hn:=an.chg m (by omega);refine⟨i,rfl,hq.cs,⟨hn.cell 0,hn.free 0,hn.cell 4,hn.free 4⟩,d,c.out,hq,hn,λx b e=>?_⟩;obtain⟨s0,e0,hl,hd⟩:=c.len x b e;cases e0;exact⟨(O x b e).lower (by show _<=y.heap.size;omega),hl,hd⟩
 go_wp2_with fail
 go_region_held3 (λw'=>w'.cell? ⟨w.heap.size,0,none⟩=some (pB P)/\w'.cell? ⟨u.heap.size+1+1,0,none⟩=some (pB (u.heap.size+1)))
  (first
   | (exact⟨U,Z⟩)
   | (exact⟨g0,g1⟩)
   | (exact c.out.choose_spec.2.1.cs1 _ _)
   | (exact c.out.choose_spec.2.1.cs2 _ _ _ _)
   | go_keep)
  (first
   | (go_at_call 169;refine HC.mono ?_;rintro e q ⟨i,rfl,⟨g0,g1⟩,⟨g2,g3,g4,g5⟩,c⟩))
 obtain⟨d,ho,v,W,O⟩:=c.out;have V:StN (q.setCell ⟨u.heap.size+1,0,none⟩ (.int .i64 5)) (u.heap.size+1) 5 [] false cM cM bX bX n:=aA (j:=0) W _;have E:StN ((q.setCell ⟨u.heap.size+1,0,none⟩ (.int .i64 5)).setCell ⟨u.heap.size+1,4,none⟩ (pB i)) (u.heap.size+1) 5 [] false cM (pB i) bX bX n:=aA (j:=4) V _;have D:=(v.set W 0 (.int .i64 5)).set V 4 (pB i);have Y:∀x b,d=some (x,b)->bK ((q.setCell ⟨u.heap.size+1,0,none⟩ (.int .i64 5)).setCell ⟨u.heap.size+1,4,none⟩ (pB i)) (Ge (u.heap.size+1+1)) i x/\b.ts.length+1<=(aS s).ts.length/\b.d=s.d:=λx b e =>
  ⟨((O x b e).1.on (bA.setCell q (p:=⟨u.heap.size+1,0,none⟩) (cI _) _)).on (bA.setCell _ (p:=⟨u.heap.size+1,4,none⟩) (cI _) _),(O x b e).2⟩
 have HO:=aa ho;have ae:u.heap.size+1+1<=((q.setCell ⟨u.heap.size+1,0,none⟩ (.int .i64 5)).setCell ⟨u.heap.size+1,4,none⟩ (pB i)).heap.size:=ab E;clear c V v W HC g0 g1 g2 g3 g4 g5 U Z c0 c1 c2 O ho;generalize av:(q.setCell ⟨u.heap.size+1,0,none⟩ (.int .i64 5)).setCell ⟨u.heap.size+1,4,none⟩ (pB i)=q2 at E D Y ae;clear av;have ak:=aa E;have a3:=aa D;have T:=aa Y;obtain⟨U,Z⟩:=D.cs;have HC:Hid (Calls prog 64 #[pB P] q2.drew λe r=>∃I K J,e=.returned (.slice I K J)/\(r.cell? ⟨w.heap.size,0,none⟩=some (pB P)/\r.cell? ⟨u.heap.size+1+1,0,none⟩=some (pB (u.heap.size+1))) /\
   (r.cell? ⟨u.heap.size+1,5,none⟩=some bX/\r.frozen? ⟨u.heap.size+1,5,none⟩=false) /\
   Hid (∃B,Out (λn=>(d.map (·.2)).bind (dc n)) B/\SFr w r P (u.heap.size+1) (u.heap.size+1+1) (B.map (·.2))/\StN r (u.heap.size+1) 5 [] false cM (pB i) bX bX n/\(∀x b,d=some (x,b)->bK r (Ge (u.heap.size+1+1)) i x) /\
    ∀l b,B=some (l,b)->jU r (Ge (u.heap.size+1+1)) (.slice I K J) l/\b.ts.length+1<=s.ts.length/\b.d=s.d)):=by
  refine(hBl q2.drew P (d.map (·.2)) (a3.po.on (ai _ _).drew) (λb e=>by
   cases hqq:d with
   | none=>rw[hqq]at e;cases e
   | some r=>rw[hqq]at e;cases e;have:=(T.out r.1 r.2 hqq).2.1;show r.2.ts.length<=N;omega)).mono ?_
  rintro e r ⟨I,K,J,B,rfl,c,F⟩;have m:Chg (·=P) q2 r:=(Chg.of_below (ai _ _).drew).then c.chg;have hq:=a3.go m c.st;have hn:=ak.chg m (by omega);refine⟨I,K,J,rfl,hq.cs,⟨hn.cell 5,hn.free 5⟩,B,c.out,hq,hn,λx b e=>(T.out x b e).1.on (m.same λk hk e=>by omega),λl b e=>?_⟩;obtain⟨s0,e0,hl,hd⟩:=c.len l b e;cases hqq:d with
  | none=>rw[hqq]at e0;cases e0
  | some r0 =>
   rw[hqq]at e0;cases e0;have h2:=(T.out r0.1 r0.2 hqq).2;have aB:b.ts.length+1<=r0.2.ts.length:=hl;exact⟨(F l b e).weak λk _ hk=>ay ae hk,by omega,hd.trans h2.2⟩
 clear E D Y;go_wp2_with fail
 go_region_held3 (λw'=>w'.cell? ⟨w.heap.size,0,none⟩=some (pB P)/\w'.cell? ⟨u.heap.size+1+1,0,none⟩=some (pB (u.heap.size+1)))
  (first
   | (exact⟨U,Z⟩)
   | (exact⟨g0,g1⟩)
   | (exact c.out.choose_spec.2.1.cs1 _ _)
   | go_keep)
  (first
   | (go_at_call 64;refine HC.mono ?_;rintro e r ⟨I,K,J,rfl,⟨g0,g1⟩,⟨g2,g3⟩,c⟩))
 obtain⟨B,ad,v,X,O,F⟩:=c.out;have a4:=aa (show StN (r.setCell ⟨u.heap.size+1,5,none⟩ (.slice I K J)) (u.heap.size+1) 5 [] false cM (pB i) (.slice I K J) bX n from aA (j:=5) X _);have R:=aa (v.set X 5 (.slice I K J));have am:=aa O;have a8:=aa F;have a5:=aa ad;have x1:=R.cs.2;clear c v X HC g0 g1 g2 g3 U Z O F ad;go_wp2_with fail;go_ret;have ao:∀k,ek (k+1) s=(cZ k 1 (aS s)).bind λr=>(dc k r.2).bind λa=>some (.whl r.1 a.1,a.2):=λk=>by
  rw[ek,ax ⟨hk,by rw[ht];decide,by rw[ht];decide⟩,ap (by rw[ht];decide),ap (by rw[ht];decide),ax ht]
 refine⟨u.heap.size+1,d.bind λx=>B.map λa=>(.whl x.1 a.1,a.2),rfl,by omega,ab a4.out,⟨R.chg,?_,?_,?_⟩,?_⟩
 ·refine Out.stm (f:=λk=>(cZ k 1 (aS s)).bind λr=>(dc k r.2).bind λa=>some (.whl r.1 a.1,a.2)) ?_ ao
  refine Out.bindO (f:=λk=>cZ k 1 (aS s)) (g:=λk r=>(dc k r.2).bind λa=>some (Sm.whl r.1 a.1,a.2)) (lJ 1 (aS s)) (λr n q h=>bJ h (λ_ e=>(kH n).1 _ _ e) λ_ _ e=>e) HO.out ?_;cases d with
  | none=>exact Out.const _
  | some x=>exact Out.map a5.out λa=>(Sm.whl x.1 a.1,a.2)
 ·have:=R.po
  cases d with
  | none=>have e:=Out.of_none a5.out;subst e;exact this
  | some x=>cases B with
   | none=>exact this
   | some a=>exact this
 ·intro x b e
  cases d with
  | none=>cases e
  | some x=>cases B with
   | none=>cases e
   | some a=>cases e;exact⟨s,rfl,(a8.out a.1 a.2 rfl).2⟩
 ·intro x b e
  cases d with
  | none=>cases e
  | some x=>cases B with
   | none=>cases e
   | some a =>
    cases e;rw[ci];have sm:bA (u.heap.size+1+1) r (r.setCell ⟨u.heap.size+1,5,none⟩ (.slice I K J)):=bA.setCell r (p:=⟨u.heap.size+1,5,none⟩) (cI _) _;obtain⟨bs,ho,hs⟩:=((a8.out a.1 a.2 rfl).1.on λk o hk ho=>sm k o hk ho).weak (A':=Ge w.heap.size) λk _ hk=>ay (by omega) hk;exact⟨by show w.heap.size<=_;omega,n,i,_,bs,a4.out,((am.out x.1 x.2 rfl).on sm).lower (by omega),ho,hs⟩
theorem jp:∀al:List (Tok×Int),(eO al).length=al.length*3
 | []=>rfl
 | a::l=>by
  have:=jp l;show(_::_::_::eO l).length=_;simp only[aC];omega
theorem x9 {ob:Obj} (hg:(x.alloc o).grownBy w1 (Value.slice (some ⟨g,0,none⟩) m c).ownBlock) {b:Nat} (hb:x.heap[b]?=some ob) (hne:b≠g):w1.heap[b]?=some ob:=by
 rw[hg.block b (by have:=ab hb;rw[ah];omega) (λe=>hne (by injection e)),aK _ _ _ (ab hb)];exact hb
theorem Ga (hg:(x.alloc o).grownBy w1 (Value.slice (some ⟨g,0,none⟩) m c).ownBlock) {p:Addr} {u:Value} (hb:x.cell? p=some u) (hne:p.block≠g):w1.cell? p=some u:=by
 have a:=ry x _ hb;rw[aI (w:=x) (by rw[hg.block p.block (by rw[ah];omega) (λe=>hne (by injection e)),aK _ _ _ a])];exact hb
theorem zS (N M:Nat) (hM:N+2<=M) (hE:fH M) (hNm:N<=1000000) (w:World) (P:Nat) (s:PS) (h:PG w P s) (hN:s.ts.length<=N+1) (t:Tx) (hk:(hd s).kind=4) (ht:(hd s).text=t) (k1':t≠ri) (k2':t≠wIn) (k3':t≠tV) (k4':t≠wIf) (k5':t≠jI) (k6':t≠yo) (k7':t≠nl) (k8':t≠jY) (k9':t≠fS):
  Calls prog 115 #[pB P] w (lW s P w):=by
 have aE:=h.lt;have b4:1<=s.ts.length:=bc.2 h.ne;have E:Below w.heap.size w (w.alloc (.cells #[pB P] 51)):=az;obtain⟨n,hh⟩:=(h.on E).head;generalize aq:w.alloc (.cells #[pB P] 51)=d at E hh;have Q:=aa (show One d w.heap.size (pB P) 51 by rw[<- aq];exact af _ _);rw[hk,ht]at hh;have HH:=aa hh;have a6:=aa E;have b0:=Q.c;have b6:w.heap.size<d.heap.size:=ab Q.out;clear hh E
 go_enter func115,ntmps115
 go_wp2_with fail;refine(cC d P _ _ _ _ n HH.out).mono ?_;rintro e u ⟨rfl,hu⟩;have aU:=hu.size;have HU:=aa (a6.trans (hu.mono a6.size));have T:=aa (Q.below hu);clear hu aq b0;have b0:=T.c;generalize A:u.alloc (.cells #[.int .i64 4,.string ⟨(t:Tx).toArray⟩,.int .i64 n] 59)=v1;generalize G:v1.alloc (stC 0 [] false cM cM bX bX n)=v2;generalize H:v2.alloc (.cells #[pB (u.heap.size+1)] 195)=v3;have z1:v1.heap.size=u.heap.size+1:=by rw[<- A];exact ah _ _
 have z2:v2.heap.size=u.heap.size+1+1:=by rw[<- G,ah,z1]
 have z3:v3.heap.size=u.heap.size+1+1+1:=by rw[<- H,ah,z2]
 have e1:Below u.heap.size u v1:=by rw[<- A];exact az
 have e2:Below v1.heap.size v1 v2:=by rw[<- G];exact az
 have e3:Below v2.heap.size v2 v3:=by rw[<- H];exact az
 have HT:=aa (show TV v3 u.heap.size 4 t n from((show TV v1 u.heap.size 4 t n by rw[<- A];exact af _ _).below e2).below e3);have t2:v1.cell? ⟨u.heap.size,2,none⟩=some (.int .i64 n):=(show TV v1 u.heap.size 4 t n by rw[<- A];exact af _ _).c.2.2;have HX:=aa (show StN v3 (u.heap.size+1) 0 [] false cM cM bX bX n from(show StN v2 (u.heap.size+1) 0 [] false cM cM bX bX n by rw[<- G,<- z1];exact af _ _).below e3);have a7:=aa (show One v3 (u.heap.size+1+1) (pB (u.heap.size+1)) 195 by rw[<- H,<- z2];exact af _ _);have I:=aa (show Below w.heap.size w v3 from(HU.trans ((e1.trans (e2.mono (by omega))).trans (e3.mono (by omega)) |>.mono HU.size)));have U:=aa (show One v3 w.heap.size (pB P) 51 from T.below ((e1.trans (e2.mono (by omega))).trans (e3.mono (by omega))));have a4:=aa (h.on I.out);have b3:P<w.heap.size:=aE;have b5:w.heap.size<u.heap.size:=by omega
 clear e1 e2 e3;obtain⟨c0,c1,c2⟩:=HT.c;have x0:=a7.c;have b1:=U.c;have q1:(t==([110,101,119]:Tx))=false:=by simpa using k1'
 have q2:(t==([105,110]:Tx))=false:=by simpa using k2'
 have q3:(t==([118,97,114]:Tx))=false:=by simpa using k3'
 have q4:(t==([105,102]:Tx))=false:=by simpa using k4'
 have q5:(t==([119,104,105,108,101]:Tx))=false:=by simpa using k5'
 have q6:(t==([111,117,116]:Tx))=false:=by simpa using k6'
 have q7:(t==([102,114,101,101]:Tx))=false:=by simpa using k7'
 have q8:(t==([100,114,97,105,110]:Tx))=false:=by simpa using k8'
 have q9:(t==([114,101,116,117,114,110]:Tx))=false:=by simpa using k9'
 go_wp2_with fail;refine(jC v3 P (some s) a4.out).mono ?_;rintro e z ⟨rfl,rfl⟩;clear A G H b0 t2;go_wp2_with fail;refine(dZ v3 P s a4.out).mono ?_;rintro e y ⟨rfl,R,hg⟩;have a5:=aa hg;have av:=aa ((Chg.of_below (S:=(·=P)) I.out).then R);have ay:=aa (HT.chg R (by omega));have aX:=aa (HX.chg R (by omega));have l:=aa (a7.chg R (by omega));have au:=aa (U.chg R (by omega));have aI:(aS s).ts.length+1=s.ts.length:=d9 (h.long (by rw[hk];decide));have b7:u.heap.size+1+1<y.heap.size:=ab l.out;clear R hg c0 c1 c2 x0 b1;obtain⟨c0,c1,c2⟩:=ay.c;have x0:=l.c;have b1:=au.c;obtain⟨K,O,f,c,D,ak,aT,aZ,g,aY,fr,ad⟩:=a5.ex;have q:c.length=(aS s).ts.length:=by rw[<- ak];simp
 have aP:1<=c.length:=by rw[q];exact bc.2 a5.ne
 have aQ:c.length<=1000000:=by omega
 have d0:y.cell? ⟨P,0,none⟩=some (.slice (some ⟨K,O,none⟩) c.length f):=(ae D 0).trans rfl;have f0:y.frozen? ⟨P,0,none⟩=false:=aD y P 0 _ _ D;have lP:=aH d0;have lB:=aH b1;have lT:=aH c0;have a3:=aa D;have V:=aa g;have aV:=aa q;have tl:(eO c).length=c.length*3:=jp c;have X:Hid (∀(x:World),Below y.heap.size y x->∀j v,(eO c)[j]?=some v->x.cell? ((⟨K,O,none⟩:Addr).add j)=some v):=λx hx j v hj=>by
  have aj:(⟨K,O,none⟩:Addr).add j=⟨K,O+j,none⟩:=by unfold Addr.add;split<;>simp_all
  rw[aj,hx.cell (p:=⟨K,O+j,none⟩) (aH (V.out j v hj))];exact V.out j v hj
 have Y:Hid (∀v∈eO c,v.oneCell'=true):=λv hv=>by
  unfold eO at hv;simp only[List.mem_flatMap,aR,jG,or_false]at hv;obtain⟨p,_,h|h|h⟩:=hv<;>(subst h;rfl)
 have Z:Hid (∀x:World,(x.alloc (.cells #[.int .i64 4,.string ⟨t.toArray⟩,.int .i64 n] 59)).ownsRow P 59 3 (.slice (some ⟨x.heap.size,0,none⟩) 1 1) 1 [.int .i64 4,.string ⟨t.toArray⟩,.int .i64 n]\/x.heap.size<P):=λx=>by
  rcases gG x.heap.size P with hx|hx
  ·exact .inr hx
  ·exact .inl ⟨rfl,.inr ⟨x.heap.size,1,_,rfl,hx,af _ _,ag _,by unfold maxLen;omega,rfl,rfl⟩⟩
 have HO:Hid ((y.alloc (.cells #[.int .i64 4,.string ⟨t.toArray⟩,.int .i64 n] 59)).ownsRow (P+1) 59 3 (.slice (some ⟨y.heap.size,0,none⟩) 1 1) 1 [.int .i64 4,.string ⟨t.toArray⟩,.int .i64 n]):=
  ⟨rfl,.inr ⟨y.heap.size,1,_,rfl,lP,af _ _,ag _,by unfold maxLen;omega,rfl,rfl⟩⟩
 obtain⟨i0,hi,aK,aL,B⟩:=cX Tryz.info59;have ar:Hid (∀d:World,(y.drew.alloc (.cells #[.int .i64 4,.string ⟨t.toArray⟩,.int .i64 n] 59)).grownBy d (Value.slice (some ⟨y.heap.size,0,none⟩) 1 1).ownBlock ->
   d.cell? ⟨w.heap.size,0,none⟩=some (pB P)/\d.cell? ⟨P,0,none⟩=some (.slice (some ⟨K,O,none⟩) c.length f)/\d.frozen? ⟨P,0,none⟩=false):=λd hg=>by
  have k0:=x9 (x:=y.drew) hg a3.out (by omega);exact⟨Ga (x:=y.drew) (p:=⟨w.heap.size,0,none⟩) hg b1 (by show w.heap.size≠y.heap.size;omega),(ae k0 0).trans rfl,aD d P 0 _ _ k0⟩
 clear D g ad q ak Z;go_wp2_with fail
 go_region_law (first
  | (refine step_append_lies _ (by rfl) _ _ _ (by rfl) (P+1) 59 i0 (.agg #[.int .i64 0,.string ⟨#[]⟩,.int .i64 0]) 3 32 underlying48 hi aK aL B rfl (by omega) (.slice (some ⟨y.heap.size,0,none⟩) 1 1) 1 [.int .i64 4,.string ⟨t.toArray⟩,.int .i64 n] (by rfl) HO.out ⟨K,O,none⟩ c.length f (eO c) (by rfl) tl (X.out _ ((ai y.heap.size y).drew.alloc (ag _) _)) Y.out (by omega) (by unfold maxLen;omega) (by omega) (by simp;omega) (y.heap.size+1) (by simp) ?_;intro C i d a b aF aJ;obtain⟨k1,k2,k3⟩:=ar.out d b))
 all_goals
  have ac:d.heap[P]?=some (.cells #[.slice (some ⟨K,O,none⟩) c.length f,.int .i64 (aS s).d,.pointer none] 54 (0,0)):=x9 (x:=y.drew) b a3.out (by omega);obtain⟨a8,aC,ao⟩:=bG a rfl;have aG:P+1<=C:=cG a C rfl;have r:1+c.length<=i:=by
   rcases a.2 with⟨e,_⟩|⟨g2,aN,aO,e,_,_,h4,_⟩
   ·cases e
   ·cases e;exact h4
  have m:One d (u.heap.size+1+1) (pB (u.heap.size+1)) 195:=x9 (x:=y.drew) b l.out (by omega);have a0:=a.cellAt 0 (by omega);have a1:=a.cellAt 1 (by omega);have a2:=a.cellAt 2 (by omega);have F:∀j,(⟨P,0,none⟩:Addr)≠⟨C,j,none⟩:=λj e=>by injection e with e1;omega
  have W:Hid (HeadAt (d.setCell ⟨P,0,none⟩ (.slice (some ⟨C,0,none⟩) (1+c.length) i)) P (.int .i64 (aS s).d) (.pointer none) 4 t n):=
   ⟨C,0,_,_,aA (j:=0) ac _,by omega,r,by omega,by rw[bf _ _ _ _ (F _)];exact a0,by rw[bf _ _ _ _ (F _)];exact a1,by rw[bf _ _ _ _ (F _)];exact a2,a8,aC,by rw[aM _ _ _ _ (by show C≠P;omega)];exact ao⟩
  have HZ:=aa (show Chg (·=P) w (d.setCell ⟨P,0,none⟩ (.slice (some ⟨C,0,none⟩) (1+c.length) i)) from(((av.drew.alloc _).grown b (λk hk hl=>by have am:some y.heap.size=some k:=hk;injection am with am;omega)).setCell (p:=⟨P,0,none⟩) (λ_=>rfl) _));have L:=m.setOther (p:=⟨P,0,none⟩) (by show P≠_;omega) (.slice (some ⟨C,0,none⟩) (1+c.length) i);have a9:(d.setCell ⟨P,0,none⟩ (.slice (some ⟨C,0,none⟩) (1+c.length) i)).cell? ⟨w.heap.size,0,none⟩=some (pB P):=gP (p:=⟨P,0,none⟩) k1 (by show P≠w.heap.size;omega);have J:=aa L;have aW:=aa (show u.heap.size+1<d.heap.size by have:=ab m;omega);clear ac m L a0 a1 a2 F ao a b aF aJ k1 k2 k3 c0 c1 c2 x0 b1 d0 f0 aG r;generalize hz:d.setCell ⟨P,0,none⟩ (.slice (some ⟨C,0,none⟩) (1+c.length) i)=z at W HZ a9 J;clear hz;go_wp2_with fail;refine(ko z P _ 4 t n W.out 4 _ rfl).mono ?_;rintro e z2 ⟨rfl,B,an⟩;have o:=J.chg B (by omega);have x3:=o.c;have aB:=aa (HZ.then B);have aw:=aa an;have b2:=ab o;clear B an a9 o;go_wp2_with fail;go_ret;have hq:∀k,ek k s=none:=λk=>by
   cases k with
   | zero=>rfl
   | succ k=>rw[ek,ax ⟨hk,by rw[ht];exact k1',by rw[ht];exact k2'⟩,ap (by rw[ht];exact k3'),ap (by rw[ht];exact k4'),ap (by rw[ht];exact k5'),ap (by rw[ht];exact k6'),ap (by rw[ht];exact k7'),ap (by rw[ht];exact k8'),ap (by rw[ht];exact k9')]
  exact⟨u.heap.size+1,none,rfl,by omega,by omega,⟨aB.out,hq,aw.out,λx s' e=>by cases e⟩,λx s' e=>by cases e⟩
end Go.Proofs.YtbeaaimcpkogcaaGreatDoor
