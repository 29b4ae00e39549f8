/- Lemmas on the way to the claim. -/
import Derived.Test.YtbeaaimcpkogcaaGreatDoorM37
set_option linter.unusedSimpArgs false
set_option linter.unusedVariables false
set_option maxHeartbeats 8000000
set_option maxRecDepth 100000
namespace Go.Proofs.YtbeaaimcpkogcaaGreatDoor
open Go.Proofs.Tryz Go.RowKit
variable {x:Ex}
def mj (n:Nat) (r:Ex×PS):Option (Sm×PS):=
 if isW wEq r.2=true then
  match r.1 with
  | .name nm=>(dy n (aS r.2)).bind λe=>some (.set nm e.1,e.2)
  | .cell a b=>(dy n (aS r.2)).bind λe=>some (.cell (.cell a b) e.1,e.2)
  | .link a b=>(dy n (aS r.2)).bind λe=>some (.cell (.link a b) e.1,e.2)
  | _=>none
 else
  match r.1 with
  | .call a b=>(bP bU r.2).bind λs2=>some (.call (.call a b),s2)
  | _=>none
theorem Av (r:Ex×PS):ld λn=>mj n r:=by
 obtain⟨x,s⟩:=r;intro n q h;refine eF h (λh=>?_) id;cases x<;>first
  | exact bJ h (λ_ e=>jM e) λ_ _ e=>e
  | exact h
def pi:Ex->Int
 | .num _=>1 | .name _=>2 | .un _ _=>3 | .bin _ _ _=>3 | .call _ _=>4 | .cell _ _=>5 | .link _ _=>6 | .new _=>7 | .inp=>8
def MV:Ex->Tx
 | .name s=>s | .call s _=>s|_=>[]
theorem xL (h:4=pi x):∃s l,x=.call s l:=by
 cases x<;>first
  | exact⟨_,_,rfl⟩
  | (simp[pi]at h)
theorem xK (h:2=pi x):∃s,x=.name s:=by
 cases x<;>first
  | exact⟨_,rfl⟩
  | (simp[pi]at h)
theorem Fc {n:Nat} {s1:PS} (h:pi x=5\/pi x=6) (hw:isW wEq s1=true):mj n (x,s1)=(dy n (aS s1)).bind λr=>some (Sm.cell x r.1,r.2):=by
 unfold mj;rw[ax hw];cases x<;>first
  | rfl
  | (simp[pi]at h)
theorem bK.node {w:World} {A:Nat->Prop} {b:Nat} (h:bK w A b x):∃k n nm t l r a ln,w.heap[b]?=some (exC k n nm t l r a ln)/\k=pi x/\nm=MV x:=by
 cases x<;>rw[bK]at h
 ·obtain⟨_,ln,h⟩:=h;exact⟨_,_,_,_,_,_,_,_,h,rfl,rfl⟩
 ·obtain⟨_,ln,h⟩:=h;exact⟨_,_,_,_,_,_,_,_,h,rfl,rfl⟩
 ·obtain⟨_,ln,_,h,_⟩:=h;exact⟨_,_,_,_,_,_,_,_,h,rfl,rfl⟩
 ·obtain⟨_,ln,_,_,h,_⟩:=h;exact⟨_,_,_,_,_,_,_,_,h,rfl,rfl⟩
 ·obtain⟨_,ln,_,_,h,_⟩:=h;exact⟨_,_,_,_,_,_,_,_,h,rfl,rfl⟩
 ·obtain⟨_,ln,_,_,h,_⟩:=h;exact⟨_,_,_,_,_,_,_,_,h,rfl,rfl⟩
 ·obtain⟨_,ln,_,_,h,_⟩:=h;exact⟨_,_,_,_,_,_,_,_,h,rfl,rfl⟩
 ·obtain⟨_,ln,_,h,_⟩:=h;exact⟨_,_,_,_,_,_,_,_,h,rfl,rfl⟩
 ·obtain⟨_,ln,h⟩:=h;exact⟨_,_,_,_,_,_,_,_,h,rfl,rfl⟩
theorem By (N M:Nat) (hM:N+2<=M) (hE:fH M) (hPo:vV (N+1)) (w:World) (P:Nat) (s:PS) (h:PG w P s) (hN:s.ts.length<=N+1) (k:Int) (t:Tx) (hk:(hd s).kind=k) (ht:(hd s).text=t) (hnk:¬(k=4/\t≠ri/\t≠wIn)):
  Calls prog 115 #[pB P] w (lW s P w):=by
 have aW:=h.lt;have b8:1<=s.ts.length:=bc.2 h.ne;have a1:Below w.heap.size w (w.alloc (.cells #[pB P] 51)):=az;obtain⟨n,I⟩:=(h.on a1).head;generalize aH:w.alloc (.cells #[pB P] 51)=w1 at a1 I;have a7:=aa (show One w1 w.heap.size (pB P) 51 by rw[<- aH];exact af _ _);rw[hk,ht]at I;have HH:=aa I;have aB:=aa a1;have b0:=a7.c;have bd:w.heap.size<w1.heap.size:=ab a7.out;clear I a1
 go_enter func115,ntmps115
 go_wp2_with fail;refine(cC w1 P _ _ _ _ n HH.out).mono ?_;rintro e u ⟨rfl,hu⟩;have b4:=hu.size;have HU:=aa (aB.trans (hu.mono aB.size));have aq:=aa (a7.below hu);clear hu aH b0;have b0:=aq.c;generalize Y:u.alloc (.cells #[.int .i64 k,.string ⟨(t:Tx).toArray⟩,.int .i64 n] 59)=v1;generalize a3:v1.alloc (stC 0 [] false cM cM bX bX n)=v2;generalize a4:v2.alloc (.cells #[pB (u.heap.size+1)] 195)=v3;have z1:v1.heap.size=u.heap.size+1:=by rw[<- Y];exact ah _ _
 have z2:v2.heap.size=u.heap.size+1+1:=by rw[<- a3,ah,z1]
 have z3:v3.heap.size=u.heap.size+1+1+1:=by rw[<- a4,ah,z2]
 have e1:Below u.heap.size u v1:=by rw[<- Y];exact az
 have e2:Below v1.heap.size v1 v2:=by rw[<- a3];exact az
 have e3:Below v2.heap.size v2 v3:=by rw[<- a4];exact az
 have HT:=aa (show TV v3 u.heap.size k t n from((show TV v1 u.heap.size k t n by rw[<- Y];exact af _ _).below e2).below e3);have t2:v1.cell? ⟨u.heap.size,2,none⟩=some (.int .i64 n):=(show TV v1 u.heap.size k t n by rw[<- Y];exact af _ _).c.2.2;have HX:=aa (show StN v3 (u.heap.size+1) 0 [] false cM cM bX bX n from(show StN v2 (u.heap.size+1) 0 [] false cM cM bX bX n by rw[<- a3,<- z1];exact af _ _).below e3);have aC:=aa (show One v3 (u.heap.size+1+1) (pB (u.heap.size+1)) 195 by rw[<- a4,<- z2];exact af _ _);have a6:=aa (show Below w.heap.size w v3 from(HU.trans ((e1.trans (e2.mono (by omega))).trans (e3.mono (by omega)) |>.mono HU.size)));have ar:=aa (show One v3 w.heap.size (pB P) 51 from aq.below ((e1.trans (e2.mono (by omega))).trans (e3.mono (by omega))));have a0:=aa (h.on a6.out);have aZ:P<w.heap.size:=aW;have b9:w.heap.size<u.heap.size:=by omega
 clear e1 e2 e3;obtain⟨c0,c1,c2⟩:=HT.c;have E:=aC.c;have C:=ar.c;have av:Hid (∀n,ek (n+1) s=(fU n s).bind λr=>mj n r):=λn=>by
  rw[ek,ap (by rw[hk,ht];exact hnk)];rfl
 have aP:=aa hnk;clear hnk
 go_upto_region 4 with fail
 clear Y a3 a4 b0 t2
 go_cut [32] (λs32 wx=>s32=.bool false/\v3=wx)
 case first =>
  by_cases h4:k=4
  ·subst h4
   by_cases hw:t=ri
   ·subst hw
    go_wp2_with fail;refine(jC v3 P (some s) a0.out).mono ?_;rintro e z ⟨rfl,rfl⟩;go_wp2_with fail
    go_meet
    exact⟨rfl,rfl⟩
   ·have b2:t=wIn:=by
     rcases Classical.em (t=wIn)with h|h
     ·exact h
     ·exact absurd ⟨rfl,hw,h⟩ aP.out
    subst b2;go_wp2_with fail;refine(jC v3 P (some s) a0.out).mono ?_;rintro e z ⟨rfl,rfl⟩;go_wp2_with fail
    go_meet
    exact⟨rfl,rfl⟩
  ·have b7:(k==4)=false:=by simpa using h4
   clear h4;go_wp2_with fail
   go_meet
   exact⟨rfl,rfl⟩
 case rest =>
  obtain⟨rfl,rfl⟩:=hcut;go_wp2_with fail;refine(hPo v3 P s a0.out hN).mono ?_;rintro e y ⟨hc,b,rfl,aF,ad⟩;have HF:=aa (show SFr w v3 P (u.heap.size+1) (u.heap.size+1+1) (some s) from⟨.of_below a6.out,a0.out,ar.out,aC.out,aZ,by omega,by omega⟩);have aG:=HX.chg hc (by omega);have aQ:=aa aG;have ba:=hc.size;have au:=aa hc;have b6:u.heap.size+1+1<b:=by omega
  clear aG c0 c1 c2 E C;rcases ad with⟨x,s1,ho,hl,hd,ag,am⟩|⟨ho,hj,H⟩
  ·have R:=aa (HF.go au.out (show PO y P (some s1) from am))
   have aL:=aa ag;have HO:=aa ho;have aR:=aa am;have W:=aa (show∀o,Out (λn=>mj n (x,s1)) o->Out (λn=>ek n s) o fromλo h=>Out.step (f:=λn=>fU n s) (g:=mj) (CI s) (Av (x,s1)) rfl av.out HO.out o h);obtain⟨kk,kn,l,kt,kl,kr,ka,aI,O,aD⟩:=ag.node;have aO:=aa O;have F:=aa aD;obtain⟨C,E⟩:=R.cs;have bb:b<y.heap.size:=ab O;clear O aD ag ho am hc aF;have D:Below y.heap.size y (y.alloc (.cells #[.string ⟨#[61]⟩] 9)):=az;go_wp2_with fail;refine(Mg _ P (some s1) (aR.on D) wEq y.heap.size 1 (af _ _)).mono ?_;rintro e z ⟨rfl,m⟩;have U:=D.trans (m.mono D.size);have d:=aa (R.on U);have A:=aa (aQ.below U);have aw:=aa (aL.on (bA.below U _));have a8:=aa (show z.heap[b]?=some (exC kk kn l kt kl kr ka aI) by rw[U.block _ bb];exact aO.out);have be:=U.size;clear m U D C E;obtain⟨C,E⟩:=d.cs;have n0:z.cell? ⟨b,0,none⟩=some (.int .i64 kk):=(ae a8.out 0).trans rfl;obtain⟨sets,Q⟩:∃q,isO wEq (some s1)=q:=⟨_,rfl⟩;have T:=aa (show isW wEq s1=sets from Q);rw[Q];clear Q;cases sets with
   | false =>
    by_cases hk4:kk=4
    ·subst hk4
     go_wp2_with fail;refine(jC z P (some s1) d.po).mono ?_;rintro e z' ⟨rfl,rfl⟩;obtain⟨cs,ca,a5⟩:=xL F.out.1;have aV:=aa a5;have b5:=aa (show z.cell? ⟨u.heap.size+1,0,none⟩=some (.int .i64 0) from(A.cell 0).trans rfl);have e0:=(A.cell 0).trans rfl;have e4:=(A.cell 4).trans rfl;have g0:=A.free 0;have g4:=A.free 4;clear a5 e0 e4;have e0:z.cell? ⟨u.heap.size+1,0,none⟩=some (.int .i64 0):=(A.cell 0).trans rfl;have e4:z.cell? ⟨u.heap.size+1,4,none⟩=some cM:=(A.cell 4).trans rfl;go_wp2_with fail
     go_region_held3 (λw'=>w'.cell? ⟨w.heap.size,0,none⟩=some (pB P)/\w'.cell? ⟨u.heap.size+1+1,0,none⟩=some (pB (u.heap.size+1)))
      (first
       | (exact⟨C,E⟩)
       | (exact d.cs1 _ _)
       | (exact d.cs2 _ _ _ _)
       | go_keep)
      (fail)
     have ak:StN (z.setCell ⟨u.heap.size+1,0,none⟩ (.int .i64 10)) (u.heap.size+1) 10 [] false cM cM bX bX n:=aA (j:=0) A.out _;have al:StN ((z.setCell ⟨u.heap.size+1,0,none⟩ (.int .i64 10)).setCell ⟨u.heap.size+1,4,none⟩ (pB b)) (u.heap.size+1) 10 [] false cM (pB b) bX bX n:=aA (j:=4) ak _;have a2:=(d.set A.out 0 (.int .i64 10)).set ak 4 (pB b);have an:bK ((z.setCell ⟨u.heap.size+1,0,none⟩ (.int .i64 10)).setCell ⟨u.heap.size+1,4,none⟩ (pB b)) (Ge (u.heap.size+1+1)) b x:=
      ((aw.lower (lo':=u.heap.size+1+1) (by omega)).on (bA.setCell z (p:=⟨u.heap.size+1,0,none⟩) (cI _) _)).on (bA.setCell _ (p:=⟨u.heap.size+1,4,none⟩) (cI _) _)
     generalize X:(z.setCell ⟨u.heap.size+1,0,none⟩ (.int .i64 10)).setCell ⟨u.heap.size+1,4,none⟩ (pB b)=V at al a2 an;clear X ak C E e0 e4 g0 g4 n0;have G:Below V.heap.size V V.drew:=(ai _ _).drew;have v:=aa (al.below G);have B:=aa (a2.on G);have aU:=aa (an.on (bA.below G _));have C:=a2.cs.1;clear G;clear al a2 an;go_wp2_with fail;refine(uL V.drew P (some s1) B.po bU).mono ?_;rintro e r ⟨rfl,m,hg⟩;have i:=aa (B.go m hg);have S:=aa (v.chg m (by omega));have ac:=aa (aU.on (m.same λk hk e=>by omega));have x1:=i.cs.2;clear m hg C;go_wp2_with fail;go_ret;refine⟨u.heap.size+1,(bP bU s1).map λs2=>(Sm.call x,s2),rfl,by omega,ab S.out,⟨i.chg,W.out _ ?_,?_,?_⟩,?_⟩
     ·have e:(λn=>mj n (x,s1))=λ_=>(bP bU s1).map λs2=>(Sm.call x,s2):=by
       funext n
       unfold mj;rw[ap (by rw[T.out];decide),aV.out];show((bP bU s1).bind λs2=>some (Sm.call (.call cs ca),s2))=_;cases bP bU s1<;>rfl
      rw[e];exact Out.const _
     ·have:=i.po
      rw[aj]at this;cases hm:bP bU s1 with
      | none=>rw[hm]at this;exact this
      | some s2=>rw[hm]at this;exact this
     ·intro x' s' e
      cases hm:bP bU s1 with
      | none=>rw[hm]at e;cases e
      | some s2=>rw[hm]at e;cases e;have:=lH hm;exact⟨s,rfl,by omega,this.2.trans hd⟩
     ·intro x' s' e
      cases hm:bP bU s1 with
      | none=>rw[hm]at e;cases e
      | some s2=>rw[hm]at e;cases e;rw[ci];exact⟨by show w.heap.size<=_;omega,n,b,S.out,ac.lower (by omega)⟩
    ·have q4:(kk==4)=false:=by simpa using hk4
     have aN:=aa hk4;clear hk4;go_wp2_with fail;refine(jC z P (some s1) d.po).mono ?_;rintro e z' ⟨rfl,rfl⟩;obtain⟨nn,I⟩:=(show PG z P s1 from d.po).head;have a9:=aa I;clear I;go_wp2_with fail;have I:=a9.out;refine(ko z P _ _ _ nn I 4 _ rfl).mono ?_;rintro e z2 ⟨rfl,Z,H⟩;have i:=aa (d.go Z (show PO z2 P none from H));have x3:=i.cs.2;have aE:=ab i.xb;clear Z H C E I;go_wp2_with fail;go_ret;refine⟨u.heap.size+1,none,rfl,by omega,by omega,⟨i.chg,W.out none (λn=>?_),i.po,λx s' e=>by cases e⟩,λx s' e=>by cases e⟩;show mj n (x,s1)=none;unfold mj;rw[ap (by rw[T.out];decide)];cases x with
     | call a c=>exact absurd F.out.1 aN.out
     | _=>rfl
   | true =>
    have b3:=iH s1;have aY:=d9 ((show PG z P s1 from d.po).long (tn T.out))
    by_cases hk2:kk=2
    ·subst hk2
     obtain⟨cs,a5⟩:=xK F.out.1;subst a5;have aX:l=cs:=F.out.2;subst aX;go_wp2_with fail;refine(jC z P (some s1) d.po).mono ?_;rintro e z' ⟨rfl,rfl⟩;go_wp2_with fail;refine(dZ z P s1 d.po).mono ?_;rintro e r ⟨rfl,m,hg⟩;have B:=aa (d.go m (show PO r P (some (aS s1)) from hg));have v:=aa (A.chg m (by omega));have aJ:=aa (show r.heap[b]?=some (exC 2 kn l kt kl kr ka aI) by rw[m.block _ (ab a8.out) (by omega)];exact a8.out);clear m hg C E n0;obtain⟨C,E⟩:=B.cs;have n2:r.cell? ⟨b,2,none⟩=some (.string ⟨l.toArray⟩):=(ae aJ.out 2).trans rfl;have e1:r.cell? ⟨u.heap.size+1,1,none⟩=some (.string ⟨#[]⟩):=(v.cell 1).trans rfl;have g1:=v.free 1;go_wp2_with fail
     go_region_held3 (λw'=>w'.cell? ⟨w.heap.size,0,none⟩=some (pB P)/\w'.cell? ⟨u.heap.size+1+1,0,none⟩=some (pB (u.heap.size+1))/\w'.cell? ⟨b,2,none⟩=some (.string ⟨l.toArray⟩))
      (first
       | (exact⟨C,E,n2⟩)
       | (exact⟨(B.cs1 _ _).1,(B.cs1 _ _).2,gP (p:=⟨u.heap.size+1,1,none⟩) n2 (by show u.heap.size+1≠b;omega)⟩)
       | go_keep)
      (fail)
     have L:StN (r.setCell ⟨u.heap.size+1,1,none⟩ (.string ⟨l.toArray⟩)) (u.heap.size+1) 0 l false cM cM bX bX n:=aA (j:=1) v.out _;have J:=B.set v.out 1 (.string ⟨l.toArray⟩);generalize X:r.setCell ⟨u.heap.size+1,1,none⟩ (.string ⟨l.toArray⟩)=V at L J;clear X C E n2 e1 g1;have G:Below V.heap.size V V.drew:=(ai _ _).drew;have S:=aa (L.below G);have i:=aa (J.on G);clear G;clear L J;go_wp2_with fail;refine(jm M hE V.drew P w.heap.size (u.heap.size+1+1) (u.heap.size+1) 2 0 l false cM cM n (aS s1) i.po (by omega) i.b i.xb S.out (by omega) (by omega) (by omega) (by omega)).mono ?_;intro e z2 m;have HZ:=aa m;obtain⟨rfl,_⟩:=m;go_wp2_with fail;go_ret;refine HZ.fin i.chg (by omega) (by omega) hd (λx=>Sm.set l x) (λo ho=>W.out _ ?_) (λrb x hc hx hn=>?_)
     ·have e:(λn=>mj n (Ex.name l,s1))=λn=>(dy n (aS s1)).bind λr=>some (Sm.set l r.1,r.2):=by
       funext n;unfold mj;rw[ax T.out]
      rw[e];exact Out.map ho λr=>(Sm.set l r.1,r.2)
     ·rw[ci];exact⟨by show w.heap.size<=_;omega,n,rb,hn,hx⟩
    ·have V:(kk==2)=false:=by simpa using hk2
     have aM:=aa hk2;clear hk2
     by_cases K:kk=5\/kk=6
     ·have aT:=aa (λn s1 hw=>Fc (n:=n) (s1:=s1) (by rw[<- F.out.1];exact K) hw)
      rcases K with K|K
      all_goals
       subst K;go_wp2_with fail;refine(jC z P (some s1) d.po).mono ?_;rintro e z' ⟨rfl,rfl⟩;go_wp2_with fail;refine(dZ z P s1 d.po).mono ?_;rintro e r ⟨rfl,m,hg⟩;have B:=aa (d.go m (show PO r P (some (aS s1)) from hg));have v:=aa (A.chg m (by omega));have aK:=aa (aw.on (m.same λk hk e=>by omega));clear m hg C E n0;obtain⟨C,E⟩:=B.cs;have e3:r.cell? ⟨u.heap.size+1,3,none⟩=some cM:=(v.cell 3).trans rfl;have g3:=v.free 3;have L:StN (r.setCell ⟨u.heap.size+1,3,none⟩ (pB b)) (u.heap.size+1) 0 [] false (pB b) cM bX bX n:=aA (j:=3) v.out _;have J:=B.set v.out 3 (pB b);have ao:bK (r.setCell ⟨u.heap.size+1,3,none⟩ (pB b)) (Ge (u.heap.size+1+1)) b x:=(aK.lower (lo':=u.heap.size+1+1) (by omega)).on (bA.setCell r (p:=⟨u.heap.size+1,3,none⟩) (cI _) _);go_wp2_with fail;generalize X:r.setCell ⟨u.heap.size+1,3,none⟩ (pB b)=V at L J ao;clear X C E e3 g3;have S:=aa L;have i:=aa J;have ac:=aa ao;clear L J ao;go_wp2_with fail;refine(jm M hE V P w.heap.size (u.heap.size+1+1) (u.heap.size+1) 3 0 [] false (pB b) cM n (aS s1) i.po (by omega) i.b i.xb S.out (by omega) (by omega) (by omega) (by omega)).mono ?_;intro e z2 m;have HZ:=aa m;obtain⟨rfl,_⟩:=m;go_wp2_with fail;go_ret;refine HZ.fin i.chg (by omega) (by omega) hd (λy=>Sm.cell x y) (λo ho=>W.out _ ?_) (λrb x hc hx hn=>?_)
       ·have e:(λn=>mj n (x,s1))=λn=>(dy n (aS s1)).bind λr=>some (Sm.cell x r.1,r.2):=by
         funext n;exact aT.out n s1 T.out
        rw[e];exact Out.map ho λr=>(Sm.cell x r.1,r.2)
       ·rw[ci];exact⟨by show w.heap.size<=_;omega,n,b,rb,hn,(ac.on (hc.same λk hk e=>by omega)).lower (by omega),hx⟩
     ·have q5:(kk==5)=false:=by simp;omega
      have q6:(kk==6)=false:=by simp;omega
      have ay:=aa K;clear K;go_wp2_with fail;refine(jC z P (some s1) d.po).mono ?_;rintro e z' ⟨rfl,rfl⟩;obtain⟨nn,I⟩:=(show PG z P s1 from d.po).head;have a9:=aa I;clear I;go_wp2_with fail;have I:=a9.out;refine(ko z P _ _ _ nn I 4 _ rfl).mono ?_;rintro e z2 ⟨rfl,Z,H⟩;have i:=aa (d.go Z (show PO z2 P none from H));have x3:=i.cs.2;have aE:=ab i.xb;clear Z H C E I;go_wp2_with fail;go_ret;refine⟨u.heap.size+1,none,rfl,by omega,by omega,⟨i.chg,W.out none (λn=>?_),i.po,λx s' e=>by cases e⟩,λx s' e=>by cases e⟩;show mj n (x,s1)=none;unfold mj;rw[ax T.out];cases x with
      | name a=>exact absurd F.out.1 aM.out
      | cell a c=>exact absurd (Or.inl F.out.1) ay.out
      | link a c=>exact absurd (Or.inr F.out.1) ay.out
      | _=>rfl
  ·have R:=aa (HF.go au.out (show PO y P none from H))
   have HO:=aa ho;obtain⟨C,E⟩:=R.cs;clear ho hj H hc aF;have D:Below y.heap.size y (y.alloc (.cells #[.string ⟨#[61]⟩] 9)):=az;go_wp2_with fail;refine(Mg _ P none (R.po.on D) wEq y.heap.size 1 (af _ _)).mono ?_;rintro e z ⟨rfl,m⟩;have d:=aa (R.on (D.trans (m.mono D.size)));clear m D C E;obtain⟨C,E⟩:=d.cs;go_wp2_with fail;refine(jC z P none d.po).mono ?_;rintro e z' ⟨rfl,rfl⟩;go_wp2_with fail;go_ret;have aE:=ab d.xb;exact⟨u.heap.size+1,none,rfl,by omega,by omega,⟨d.chg,Out.stepN (f:=λn=>fU n s) (g:=mj) rfl av.out HO.out,d.po,λx s' e=>by cases e⟩,λx s' e=>by cases e⟩
theorem GV:∀N,N<=1000000->fH N/\Ea N:=by
 intro N
 induction N with
 | zero=>exactλ_=>⟨λw P s c h b=>absurd b (by omega),λw P s h b=>absurd b (by omega)⟩
 | succ N ih =>
  intro b;obtain⟨e,f⟩:=ih (by omega);have d:=ux N (by omega) e;have a:∀w P s,PG w P s->s.ts.length<=N->Calls prog 212 #[pB P] w (iR P (λn=>gl n s) (s.ts.length-1) s.d w):=λw P s h hl=>BS N d f w P s h hl;exact⟨λw P s c h hl=>Dr N e a w P s c h (by omega),λw P s h hl=>a w P s h (by omega)⟩
theorem Fb (N:Nat) (hN:N<=1000000):vV N:=ux N hN (GV N hN).1
theorem Bx (N M:Nat) (hM:N+2<=M) (hNm:N<=1000000) (hE:fH M) (hPo:vV (N+1)) (hBl:Ei N) (hBr:Ly N):Lq (N+1):=by
 intro w P s h b;show Calls prog 115 #[pB P] w (lW s P w)
 by_cases hk:(hd s).kind=4/\(hd s).text≠ri/\(hd s).text≠wIn
 ·obtain⟨a,c,d⟩:=hk
  by_cases a1:(hd s).text=tV
  ·exact EF N M hM hE w P s h b a a1
  by_cases a2:(hd s).text=wIf
  ·exact Hx N M hM hE hBr w P s h b a a2
  by_cases a3:(hd s).text=jI
  ·exact zR N M hM hE hBl w P s h b a a3
  by_cases a4:(hd s).text=yo
  ·exact EG N M hM hE w P s h b a a4
  by_cases a5:(hd s).text=nl
  ·exact Bz N M hM hE w P s h b a a5
  by_cases a6:(hd s).text=jY
  ·exact zT N M hM hE w P s h b a a6
  by_cases a7:(hd s).text=fS
  ·exact wq N M hM hE w P s h b a a7
  ·exact zS N M hM hE hNm w P s h b _ a rfl c d a1 a2 a3 a4 a5 a6 a7
 ·exact By N M hM hE hPo w P s h b _ _ rfl rfl hk
theorem J8:∀N,N+2<=1000000->Lq N/\Ei N/\Ly N:=by
 intro N
 induction N with
 | zero =>
  refineλ_=>⟨λw P s h a=>?_,?_,λw P s ln h a=>?_⟩
  ·exact absurd (bc.2 h.ne) (by omega)
  ·intro w P o h a
   cases o with
   | some s=>exact absurd (bc.2 (PG.ne h)) (by have:=a s rfl;omega)
   | none =>
    have b:Lq 0:=λw P s h a=>absurd (bc.2 h.ne) (by omega);exact sg 0 (by omega) b w P none h (λs e=>by cases e)
  ·exact absurd (bc.2 h.ne) (by omega)
 | succ N ih =>
  intro a;obtain⟨g,c,d⟩:=ih (by omega);have f:=(GV 1000000 (ag _)).1;exact⟨Bx N 1000000 (by omega) (by omega) f (Fb (N+1) (by omega)) c d,sg N (by omega) g,xU N 1000000 (by omega) f c d⟩
end Go.Proofs.YtbeaaimcpkogcaaGreatDoor
