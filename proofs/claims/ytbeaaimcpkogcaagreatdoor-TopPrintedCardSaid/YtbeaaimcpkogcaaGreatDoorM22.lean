/- Lemmas on the way to the claim. -/
import Derived.Test.YtbeaaimcpkogcaaGreatDoorM16
set_option linter.unusedSimpArgs false
set_option linter.unusedVariables false
set_option maxHeartbeats 8000000
set_option maxRecDepth 100000
namespace Go.Proofs.YtbeaaimcpkogcaaGreatDoor
open Go.Proofs.Tryz Go.RowKit
variable {q u w w1:World} {P XB base cap eb gg lo m n size:Nat} {s s1:PS} {b:Bool} {av v:Value} {xs:List Value} {o:Obj} {p:Addr} {nm:Tx} {bs:List Nat}
theorem Bh (u:World) (P B T X:Nat) (v0:Value) (wd:Tx) (h:PB u P) (hB:One u B (pB P) 51) (hT:One u T (.string ⟨wd.toArray⟩) 9) (hX:One u X v0 261) (hBX:B≠X) (hTX:T≠X) (hBP:B≠P) (hTP:T≠P) (hXP:P<X):
  Calls prog 249 #[pB B,pB X,pB T] u λe u'=>e=.returned (.tuple #[])/\Chg (λk=>k=P\/k=X) u u'/\JH X u'/\PB u' P:=by
 have x:=hB.c;have y:=hX.c
 go_enter func249,ntmps249
 go_wp2_with fail;refine(tB u P h 1).mono ?_;rintro e v ⟨f,b,rfl,r,s,g⟩;have l:=aa (hB.chg f hBP);have n:=aa (hT.chg f hTP);have a:=aa (hX.chg f (by omega));have c:=aa (ay (show X+1<=u.heap.size from ab hX) r);have E:=a.c;have C:=dm a.out;have A:(v.setCell ⟨X,0,none⟩ (pB b)).cell? ⟨B,0,none⟩=some (pB P):=(l.setOther (p:=⟨X,0,none⟩) (iq hBX) _).c;have D:(v.setCell ⟨X,0,none⟩ (pB b)).cell? ⟨T,0,none⟩=some (.string ⟨wd.toArray⟩):=(n.setOther (p:=⟨X,0,none⟩) (iq hTX) _).c;have m:=aa (Chg.setCell (S:=λk=>k=P\/k=X) (p:=⟨X,0,none⟩) (f.mono λi _ q=>Or.inl q) (λ_=>.inr rfl) (pB b));have d:=aa (g.setOther a.out (by decide) (by decide) hXP 0 (pB b));have o:=aa (show One (v.setCell ⟨X,0,none⟩ (pB b)) X (pB b) 261 from iw a.out);have w:=aa (s.setOther (p:=⟨X,0,none⟩) (show X≠b by have:=c.out;omega) (pB b));clear f s g x y;go_wp2_with fail;refine(iJ _ P d.out wd).mono ?_;rintro e z ⟨rfl,t⟩;have j:=aa t;clear t;go_wp2_with fail;go_end0;exact⟨rfl,m.on j.out,⟨b,o.below j.out,c.out,w.on j.out⟩,d.on j.out⟩
theorem pX (N:Nat) (hE:fH N) (w:World) (P:Nat) (wa wd:Tx) (s:PS) (h:PG w P s) (hN:s.ts.length<=N):
  Calls prog 215 #[pB P,.string ⟨wa.toArray⟩,.string ⟨wd.toArray⟩] w (iR P (λn=>eS n wa wd s) (s.ts.length-1) s.d w):=by
 have R:∀(u:World) (o:Obj),(u.alloc o).heap.size=u.heap.size+1:=λu o=>ah _ _;generalize g:w.alloc (.cells #[pB P] 51)=w1;generalize j:w1.alloc (.cells #[.string ⟨wd.toArray⟩] 9)=w2;generalize y:w2.alloc (.cells #[.pointer none] 261)=w3;have T:w1.heap.size=w.heap.size+1:=by rw[<- g,R]
 have G:w2.heap.size=w.heap.size+1+1:=by rw[<- j,R,T]
 have Q:Below w1.heap.size w1 w2:=by rw[<- j];exact az
 have F:Below w2.heap.size w2 w3:=by rw[<- y];exact az
 have Y:Below w.heap.size w w1:=by rw[<- g];exact az
 have H:=aa (show One w3 w.heap.size (pB P) 51 from((show One w1 w.heap.size (pB P) 51 by rw[<- g];exact af _ _).below Q).below F);have W:=aa (show One w3 (w.heap.size+1) (.string ⟨wd.toArray⟩) 9 from(show One w2 (w.heap.size+1) (.string ⟨wd.toArray⟩) 9 by rw[<- j,<- T];exact af _ _).below F);have X:=aa (show One w3 (w.heap.size+1+1) (.pointer none) 261 by rw[<- y,<- G];exact af _ _);have O:=aa (show Below w.heap.size w w3 from(Y.trans (Q.mono (by omega))).trans (F.mono (by omega)));have Z:=h.lt;have HP:=aa (h.on O.out);clear Y Q F R;have c0:=H.c;have J:=aa (vd (A:=Ex) (λk=>k=P\/k=w.heap.size+1+1) P w3 wa s HP.out (.inl rfl) 249 #[pB w.heap.size,pB (w.heap.size+1+1),pB (w.heap.size+1)] (JW wd) (Ln (w.heap.size+1+1)) (JH (w.heap.size+1+1))
  (λu q hq c hl=>zN N hE u P _ _ _ _ wd q hq (by omega) (H.chg c (by omega)) (W.chg c (by omega)) (X.chg c (by omega)) (by omega) (by omega) (by omega) (by omega) (by omega))
  (λu hq c=>Bh u P _ _ _ _ wd hq (H.chg c (by omega)) (W.chg c (by omega)) (X.chg c (by omega)) (by omega) (by omega) (by omega) (by omega) (by omega))
  (λu=>by kernel_rfl)
  (λu a v ⟨b,h1,h2⟩=>⟨b,h1.setOther (by show P≠_;omega) v,h2.on (bA.setCell u (by show P<_;omega) v)⟩)
  (λu v ⟨b,h1,h2,h3⟩=>⟨b,h1.setOther (by show P≠_;omega) v,h2,h3.setOther (by show P≠_;omega) v⟩))
 clear hN
 go_enter func215,ntmps215
 go_wp2_with fail;refine J.mono ?_;rintro e v ⟨rfl,c,t⟩;have V:=aa ((Chg.of_below (S:=(·=P)) O.out).trans c λi hi q=>by rcases q with q|q<;>omega)
 have a0:=aa (ay O.size c.size);clear c g j y T G c0;rcases t with⟨x,G,C,hl,hd,⟨b,f,B⟩,E⟩|⟨C,⟨b,f,a1,hj⟩,D⟩
 ·have L:=aa C
  have m:=aa f;have I:=aa B;have M:=aa E;have x0:=f.c;have f0:=dm f;clear C f B E;have l:=aa (M.setOther m.out (by decide) (by omega) 0 (pB b));have r:=aa (show One (v.setCell ⟨w.heap.size+1+1,0,none⟩ (pB b)) (w.heap.size+1+1) (pB b) 261 from iw m.out);have z:=aa (I.on (bA.setCell v (p:=⟨w.heap.size+1+1,0,none⟩) (show w.heap.size+1+1<_ by omega) (pB b)));have U:=r.c;go_wp2_with fail;refine aN (v:=pB b) (by simp[results,Tryz.results215,go_sem,U]) rfl ⟨V.setCell (p:=⟨w.heap.size+1+1,0,none⟩) (λhh=>absurd hh (by show¬(w.heap.size+1+1<w.heap.size);omega)) _,b,rfl,by have:=z.ge;omega,.inl ⟨x,G,L.up rfl λn=>rfl,by omega,hd,z.lower (by omega),l.out⟩⟩
 ·have L:=aa C
  have m:=aa f;have l:=aa (D.setOther f (by decide) (by decide) (by omega) 0 (pB b));have r:=aa (show One (v.setCell ⟨w.heap.size+1+1,0,none⟩ (pB b)) (w.heap.size+1+1) (pB b) 261 from iw f);have K:=aa (hj.setOther (p:=⟨w.heap.size+1+1,0,none⟩) (show w.heap.size+1+1≠b by omega) (pB b));have x0:=f.c;have f0:=dm f;have U:=r.c;clear C f hj D;go_wp2_with fail;refine aN (v:=pB b) (by simp[results,Tryz.results215,go_sem,U]) rfl ⟨V.setCell (p:=⟨w.heap.size+1+1,0,none⟩) (λhh=>absurd hh (by show¬(w.heap.size+1+1<w.heap.size);omega)) _,b,rfl,by omega,.inr ⟨L.up rfl λn=>rfl,K.out,l.out⟩⟩
theorem qF (y:World) (P b:Nat) (k:Int) (t:Tx) (n:Int) (s:PS) (h:PG y P s) (hk:(hd s).kind=1) (hv:TV y b k t n) (hne:¬b=P):
  Calls prog 60 #[pB P] y.drew λe z=>e=.returned (.string ⟨(hd s).text.toArray⟩)/\Chg (·=P) y z/\PG z P (aS s)/\z.cell? ⟨b,2,none⟩=some (.int .i64 n):=by
 refine(yT y.drew P s (h.on (ai _ _).drew) hk).mono ?_;rintro e z ⟨rfl,c,d⟩;have a:Chg (·=P) y z:=(Chg.of_below (ai _ _).drew).then c;exact⟨rfl,a,d,(hv.chg a hne).c.2.2⟩
theorem ro (y:World) (P b:Nat) (k:Int) (t:Tx) (n:Int) (s:PS) (h:PG y P s) (hk:(hd s).kind≠1) (hv:TV y b k t n) (hne:¬b=P):
  Calls prog 60 #[pB P] y.drew λe z=>e=.returned (.string ⟨#[]⟩)/\Chg (·=P) y z/\PB z P/\z.cell? ⟨b,2,none⟩=some (.int .i64 n):=by
 refine(CE y.drew P s (h.on (ai _ _).drew) hk).mono ?_;rintro e z ⟨rfl,c,d⟩;have a:Chg (·=P) y z:=(Chg.of_below (ai _ _).drew).then c;exact⟨rfl,a,d,(hv.chg a hne).c.2.2⟩
theorem vP (N:Nat) (hE:fH N) (w:World) (P:Nat) (s:PS) (h:PG w P s) (hN:s.ts.length<=N):
  Calls prog 216 #[pB P] w (iR P (λn=>dN n s) (s.ts.length-1) s.d w):=by
 obtain⟨n,W⟩:=h.head;obtain⟨t,H⟩:∃t,(hd s).text=t:=⟨_,rfl⟩;obtain⟨k,F⟩:∃k,(hd s).kind=k:=⟨_,rfl⟩;rw[H,F]at W;have HH:=aa W;have C:=aa H;have j:=aa F;have E:=W.c2;have a9:=h.lt;obtain⟨r,hr⟩:∃r,isW cD s=r:=⟨_,rfl⟩;have U:=aa hr;clear W H F hr
 go_enter func216,ntmps216
 go_wp2_with fail;refine(cC w P _ _ k t n HH.out).mono ?_;rintro e u ⟨rfl,X⟩;have K:=aa (X.alloc X.size (.cells #[.int .i64 k,.string ⟨t.toArray⟩,.int .i64 n] 59));have G:¬u.heap.size=P:=λe=>by have:=X.size;omega
 generalize hv:u.alloc (.cells #[.int .i64 k,.string ⟨t.toArray⟩,.int .i64 n] 59)=v at K;have HV:=aa (show TV v u.heap.size k t n by rw[<- hv];exact af _ _);have a1:=aa (h.on K.out);clear X;go_wp2_with fail;have A:Below v.heap.size v (v.alloc (.cells #[.string ⟨#[40]⟩] 9)):=az;refine(jS _ P _ k t n ((HH.on K.out).on A) v.heap.size 1 [cD] (af _ _) (by simp) 1 rfl r (by rw[<- C.out,<- j.out];exact(pd _ s).trans U.out)).mono ?_;rintro e y ⟨rfl,hy⟩;have HY:=aa (A.trans (hy.mono A.size));have o:=aa (HV.below HY.out);have m:=aa (a1.on HY.out);have D:=aa (K.trans (HY.mono K.size));have a3:y.cell? ⟨P,2,none⟩=some (.pointer none):=by rw[D.cell (p:=⟨P,2,none⟩) (aH E)];exact E
 clear hy A hv E;obtain⟨V,c1,c2⟩:=o.c;cases r with
 | true =>
  go_wp2_with fail;refine(pX N hE y P cD bR s m.out hN).mono ?_;rintro e z ⟨hc,b,rfl,Q,c⟩;have HC:=aa ((Chg.of_below (S:=(·=P)) D.out).then hc);have Z:=aa Q;have Y:=aa c;clear hc Q c;go_wp2_with fail;go_ret;refine⟨HC.out,b,rfl,ay D.size Z.out,?_⟩;rcases Y.out with⟨x,s2,ho,hl,hd,a4,a7⟩|⟨ho,hj,a6⟩
  ·exact .inl ⟨x,s2,ho.up rfl λn=>by show dN (n+1) s=_;rw[dN,ax U.out],hl,hd,a4.lower D.size,a7⟩
  ·exact .inr ⟨ho.up rfl λn=>by show dN (n+1) s=_;rw[dN,ax U.out],hj,a6⟩
 | false =>
  have HF:Hid (∀n,dN (n+1) s=if(hd s).kind=2 then some (.num (tY (hd s).text),aS s)else(cR s).bind λr=>some (.name r.1,r.2)):=λn=>by
   rw[dN,ap (by rw[U.out];decide)]
  by_cases g:k=2
  ·subst g
   have R:=(h.ok (hd s) (by have:=h.ne;unfold hd;cases hs:s.ts with|nil=>exact absurd hs this|cons a r=>simp)).2 j.out;rw[C.out]at R;obtain⟨f,g,O,a5⟩:=R;have HD:=aa g;have a0:=aa f;have HM:=aa O;clear f g O;go_wp2_with fail;refine(fk y P none a3 false rfl).mono ?_;rintro e z ⟨rfl,rfl⟩;go_wp2_with fail;refine(dZ y P s m.out).mono ?_;rintro e z ⟨rfl,B,I⟩;have l:=aa ((Chg.of_below (S:=(·=P)) D.out).then B);have HG:=aa I;have L:=aa (o.chg B G);have ad:=aa B.size;clear B I V c1 c2;obtain⟨V,c1,c2⟩:=L.c;go_wp2_with fail;obtain⟨w0,ht,a8,M⟩:=HG.tb;refine(qx w0 z M ht t a5 a0.out HD.out).mono ?_;rintro e q ⟨hq,nn,er,rfl,c⟩;rcases c with⟨ab,_⟩|⟨_,rfl,rfl⟩
   ·exact absurd HM.out (by omega)
   ·have T:=aa hq
    have a2:=aa (L.below hq);have ac:=aa (show((tY t:Nat):Int)%4294967296=tY t by have:=HM.out;omega);have ae:=HM.out;clear hq V c1 c2 M a8;obtain⟨V,c1,c2⟩:=a2.c;go_wp2_with fail;go_ret;refine⟨(l.on T.out).alloc _,_,rfl,ay l.size T.size,.inl ⟨.num (tY t),aS s,⟨1,by show dN (0+1) s=_;rw[HF.out,ax j.out,C.out]⟩,?_,rfl,?_,(HG.on T.out).on (az)⟩⟩
    ·have:=d9 (h.long (by rw[j.out];decide));omega
    ·rw[bK];exact⟨ay l.size T.size,_,af q _⟩
  ·have ag:(k==2)=false:=by simpa using g
   have J:Hid (∀n,dN (n+1) s=(cR s).bind λr=>some (.name r.1,r.2)):=λn=>by
    rw[HF.out,ap (by rw[j.out];exact g)]
   clear g
   by_cases f:(hd s).kind=1
   ·have i:=aa f
    clear f;go_wp2_with fail
    go_region_with (go_at_call 60;refine(qF y P _ _ _ _ s m.out i.out o.out G).mono ?_;rintro e z ⟨rfl,B,I,g2⟩)
    all_goals
     have l:=aa ((Chg.of_below (S:=(·=P)) D.out).then B);go_wp2_with fail;go_ret;refine⟨l.alloc _,_,rfl,l.size,.inl ⟨.name (hd s).text,aS s,⟨1,by show dN (0+1) s=_;rw[J.out];unfold cR;rw[ax i.out];rfl⟩,?_,rfl,?_,I.on (az)⟩⟩
     ·have:=d9 (h.long (by rw[i.out];decide));omega
     ·rw[bK];exact⟨l.size,_,af z _⟩
   ·have i:=aa f
    clear f;go_wp2_with fail
    go_region_with (go_at_call 60;refine(ro y P _ _ _ _ s m.out i.out o.out G).mono ?_;rintro e z ⟨rfl,B,I,g2⟩)
    all_goals
     have l:=aa ((Chg.of_below (S:=(·=P)) D.out).then B);go_wp2_with fail;go_ret;refine⟨l.alloc _,_,rfl,l.size,.inr ⟨?_,⟨_,_,[],[],_,_,_,_,af z _⟩,I.on (az)⟩⟩;intro n;cases n with
     | zero=>rfl
     | succ n=>show dN (n+1) s=none;rw[J.out];unfold cR;rw[ap i.out];rfl
def muP (P:Nat) (w:World):Nat:=match w.cell? ⟨P,0,none⟩,w.cell? ⟨P,2,none⟩with|some (.slice _ n _),some (.pointer none)=>n+1|_,_=>0
theorem PG.mu (h:PG w P s):muP P w=s.ts.length+1:=by
 obtain⟨T,o,n,b,a,hn,_⟩:=h.cells;unfold muP;rw[show w.cell? ⟨P,0,none⟩=_ from(gN w P 0 _ _ _ a).trans rfl,show w.cell? ⟨P,2,none⟩=_ from(gN w P 2 _ _ _ a).trans rfl];simp[hn]
theorem PB.mu (h:PB w P):muP P w=0:=by
 obtain⟨d,f,k,t,n,c,_⟩:=h.ex;obtain⟨T,o,len,b,a,_⟩:=c.ex;unfold muP;rw[show w.cell? ⟨P,0,none⟩=_ from(gN w P 0 _ _ _ a).trans rfl,show w.cell? ⟨P,2,none⟩=_ from(gN w P 2 _ _ _ a).trans rfl];rfl
structure Lst (A:Type) where
 one:Nat->A->PS->Option (A×PS)
 all:Nat->Bool->A->PS->Option (A×PS)
 zero:∀b a s,all 0 b a s=none
 succ:∀n b a s,all (n+1) b a s=if isW bR s=true then some (a,s)else(if b=true then some s else bP fy s).bind λs1=>(one n a s1).bind λr=>all n false r.1 r.2
 sz:A->Nat
 szle:∀n a s r,one n a s=some r->sz r.1<=sz a+1
 mono1:∀a s,ld λn=>one n a s
 mono:∀b a s,ld λn=>all n b a s
def CR {A:Type} (L:Lst A) (a:A) (s1:PS) (n:Nat):Option (A×PS):=(L.all n true a s1).bind λl=>(bP bR l.2).bind λs3=>some (l.1,s3)
def JI {A:Type} (L:Lst A) (S:Nat->Prop) (P:Nat) (Gd:World->A->Prop) (Bd:World->Prop) (u:World) (s0:PS) (a0:A) (b:Bool) (wr:World):Prop:=
 Chg S u wr/\((∃a s1,PG wr P s1/\Gd wr a/\s1.ts.length<=s0.ts.length/\s1.d=s0.d/\L.sz a+s1.ts.length<=L.sz a0+s0.ts.length/\∀o,Out (λn=>L.all n b a s1) o->Out (λn=>L.all n true a0 s0) o) \/
  (PB wr P/\Bd wr/\Out (λn=>L.all n true a0 s0) none))
theorem Lst.round {A:Type} (L:Lst A) {a a':A} {s2:PS} (h1:isW bR s=false) (h2:(if b=true then some s else bP fy s)=some s1) (h3:Out (λn=>L.one n a s1) (some (a',s2))) (o:Option (A×PS)) (h:Out (λn=>L.all n false a' s2) o):Out (λn=>L.all n b a s) o:=by
 have e:∀n,L.all (n+1) b a s=(L.one n a s1).bind λr=>L.all n false r.1 r.2:=λn=>by rw[L.succ,ap (by rw[h1];decide),h2];rfl
 refine Out.up (f:=λn=>(L.one n a s1).bind λr=>L.all n false r.1 r.2) ?_ (L.zero _ _ _) e;cases o with
 | none=>exact Out.none2 (f:=λn=>L.one n a s1) (g:=λn r=>L.all n false r.1 r.2) (r:=(a',s2)) (L.mono1 a s1) h3 h
 | some q=>exact Out.some2 (f:=λn=>L.one n a s1) (g:=λn r=>L.all n false r.1 r.2) (r:=(a',s2)) (L.mono1 a s1) h3 (L.mono _ _ _) h
theorem Lst.fail1 {A:Type} (L:Lst A) {a:A} (h1:isW bR s=false) (h2:(if b=true then some s else bP fy s)=none):Out (λn=>L.all n b a s) none:=by
 intro n;cases n with
 | zero=>exact L.zero _ _ _
 | succ n=>show L.all (n+1) b a s=none;rw[L.succ,ap (by rw[h1];decide),h2];rfl
theorem Lst.fail2 {A:Type} (L:Lst A) {a:A} (h1:isW bR s=false) (h2:(if b=true then some s else bP fy s)=some s1) (h3:Out (λn=>L.one n a s1) none):Out (λn=>L.all n b a s) none:=by
 intro n;cases n with
 | zero=>exact L.zero _ _ _
 | succ n=>show L.all (n+1) b a s=none;rw[L.succ,ap (by rw[h1];decide),h2];show(L.one n a s1).bind _=none;rw[show L.one n a s1=none from h3 n];rfl
theorem Lst.stop {A:Type} (L:Lst A) {a:A} (h1:isW bR s=true):Out (λn=>L.all n b a s) (some (a,s)):=⟨1,by show L.all (0+1) b a s=_;rw[L.succ,ax h1]⟩
theorem AA {A:Type} (L:Lst A) (S:Nat->Prop) (P:Nat) (u:World) (s0:PS) (a0:A) (Gd:World->A->Prop) (Bd:World->Prop) (B F:Nat) (fid:FuncId) (caps:Array Value)
 (hg:PG u P s0) (ha:Gd u a0) (hS:S P) (hB:One u B (pB P) 51) (hF:One u F (.func (.func fid) #[] caps) 1) (hSB:¬S B) (hSF:¬S F) (hGB:∀u a,Gd u a->Bd u)
 (hone:∀v a s1,PG v P s1->Gd v a->Chg S u v->s1.ts.length<=s0.ts.length->L.sz a+s1.ts.length<=L.sz a0+s0.ts.length->Calls prog fid caps v (pC S P (λn=>L.one n a s1) (s1.ts.length-1) s1.d Gd Bd v))
 (honeB:∀v a,PB v P->Gd v a->Chg S u v->L.sz a<=L.sz a0+s0.ts.length->Calls prog fid caps v λe v'=>e=.returned (.tuple #[])/\Chg S v v'/\Bd v'/\PB v' P)
 (hcall:∀u,Sem.run prog (callFunc fid caps) u=.ok (.enter fid caps) u)
 (hG:∀v v' a,Gd v a->Chg (·=P) v v'->Gd v' a) (hBk:∀v v',Bd v->Chg (·=P) v v'->Bd v'):
  Calls prog 112 #[pB B,pB F] u (pC S P (CR L a0 s0) s0.ts.length s0.d Gd Bd u):=by
 have J:=aa hG;have ad:=aa hBk;have a8:=aa hone;have ah:=aa honeB;have V:=aa hcall;have an:=aa hGB;have a9:=aa (show JI L S P Gd Bd u s0 a0 true u from⟨Chg.refl _ _,.inl ⟨a0,s0,hg,ha,ag _,rfl,ag _,λo h=>h⟩⟩);clear hG hBk hone honeB hcall hGB
 go_enter func112,ntmps112
 go_wp2_with fail
 go_loopw [2] (λf wr=>∃b,f=.bool b/\Hid (JI L S P Gd Bd u s0 a0 b wr)) (λ_ wr=>muP P wr)
 case atStart=>exact⟨true,rfl,a9⟩
 case round =>
  clear a9;obtain⟨b,rfl,hr⟩:=hrel;obtain⟨hc,m⟩:=hr.out;clear hr;have HC:=aa hc;have U:=aa (hB.chg hc hSB);have ae:=aa (hF.chg hc hSF);have b0:=U.c;clear hc;rcases m with⟨a,s1,H,ac,hl,hd,ak,w⟩|⟨a5,ab,w⟩
  ·have E:=(H.head.choose_spec).c2
   obtain⟨n,hh⟩:=H.head;have HH:=aa hh;have HP:=aa H;have a7:=aa ac;have p:=aa w;have K:=aa H.mu;have al:1<=s1.ts.length:=bc.2 H.ne;clear H ac w hh;cases hw:isW bR s1 with
   | true =>
    have M:=aa hw;clear hw;go_wp2_with fail;refine(fk wr P none E false rfl).mono ?_;rintro e z ⟨rfl,rfl⟩;go_wp2_with fail;have r:Below wr.heap.size wr (wr.alloc (.cells #[.string ⟨#[41]⟩] 9)):=az;refine(jS _ P _ _ _ n (HH.on r) wr.heap.size 1 [bR] (af _ _) (by simp) 1 rfl true ((pd _ s1).trans M.out)).mono ?_;rintro e y ⟨rfl,hy⟩;have O:=aa (r.trans (hy.mono r.size));clear hy r E;have b1:=(U.below O.out).c;go_wp2_with fail;refine(kG y P s1 (HP.on O.out) bR M.out).mono ?_;rintro e z ⟨rfl,x,hg⟩;have HZ:=aa x;have HG:=aa hg;clear x hg;go_wp2_with fail;go_end0;refine⟨rfl,(HC.on O.out).trans HZ.out λi _ q=>by subst q;exact hS,.inl ⟨a,aS s1,?_,?_,hd,J.out _ _ _ (J.out _ _ _ a7.out (.of_below O.out)) HZ.out,HG.out⟩⟩
    ·exact(p.out _ (L.stop M.out)).fst (by show(bP bR s1).bind _=_;unfold bP;rw[ax M.out];rfl)
    ·unfold aS;split<;>simp<;>omega
   | false =>
    have M:=aa hw;clear hw;go_wp2_with fail;refine(fk wr P none E false rfl).mono ?_;rintro e z ⟨rfl,rfl⟩;go_wp2_with fail;have r:Below wr.heap.size wr (wr.alloc (.cells #[.string ⟨#[41]⟩] 9)):=az;refine(jS _ P _ _ _ n (HH.on r) wr.heap.size 1 [bR] (af _ _) (by simp) 1 rfl false ((pd _ s1).trans M.out)).mono ?_;rintro e y ⟨rfl,hy⟩;have O:=aa (r.trans (hy.mono r.size));clear hy r E;have a6:=aa (U.below O.out);have W:=aa (ae.below O.out);have a1:=aa (HP.on O.out);have Y:=aa (J.out _ _ _ a7.out (.of_below O.out));have Q:=aa (HC.on O.out);have b1:=a6.c;cases b with
    | true =>
     have N:=V.out y;have f0:=W.c;go_wp2_with fail;refine(a8.out y a s1 a1.out Y.out Q.out (by exact hl) (by exact ak)).mono ?_;rintro e q ⟨rfl,T,m⟩;have C:=aa (Q.then T);clear T f0 N;rcases m with⟨a',s2,G,aj,a4,s,j⟩|⟨G,l,c⟩
     ·have ai:=aa j
      have a3:=aa (show L.sz a'<=L.sz a+1 by obtain⟨n,hn⟩:=G;exact L.szle n a _ (a',s2) hn);have g:=aa j.mu;have R:=aa (show JI L S P Gd Bd u s0 a0 false q from⟨C.out,.inl ⟨a',s2,j,s,by omega,a4.trans hd,by have:=a3.out;omega,λo h=>p.out o (L.round M.out rfl G o h)⟩⟩);clear G s j;go_wp2_with fail
      go_roundw
      case rel=>exact⟨false,rfl,R⟩
      case measure=>rw[g.out,K.out];omega
     ·have g:=aa c.mu
      have R:=aa (show JI L S P Gd Bd u s0 a0 false q from⟨C.out,.inr ⟨c,l,p.out none (L.fail2 M.out rfl G)⟩⟩);clear G l c;go_wp2_with fail
      go_roundw
      case rel=>exact⟨false,rfl,R⟩
      case measure=>rw[g.out,K.out];omega
    | false =>
     cases hcm:isW fy s1 with
     | true =>
      have D:=aa hcm;clear hcm;go_wp2_with fail;refine(kG y P s1 a1.out fy D.out).mono ?_;rintro e z ⟨rfl,x,hg⟩;have am:=aa (a6.chg x λe=>hSB (by rw[e];exact hS));have X:=aa (W.chg x λe=>hSF (by rw[e];exact hS));have Z:=aa (J.out _ _ _ Y.out x);have I:=aa (Q.trans x λi _ q=>by subst q;exact hS);have a2:=aa hg;have aq:(aS s1).ts.length<=s1.ts.length:=by unfold aS;split<;>simp
      clear x hg b0 b1;have N:=V.out z;have f0:=X.c;go_wp2_with fail;refine(a8.out z a (aS s1) a2.out Z.out I.out (by omega) (by omega)).mono ?_;rintro e q ⟨rfl,T,m⟩;have C:=aa (I.then T);clear T f0 N;rcases m with⟨a',s2,G,aj,a4,s,j⟩|⟨G,l,c⟩
      ·have ai:=aa j
       have a3:=aa (show L.sz a'<=L.sz a+1 by obtain⟨n,hn⟩:=G;exact L.szle n a _ (a',s2) hn);have g:=aa j.mu;have R:=aa (show JI L S P Gd Bd u s0 a0 false q from⟨C.out,.inl ⟨a',s2,j,s,by omega,a4.trans hd,by have:=a3.out;omega,λo h=>p.out o (L.round M.out (by show bP fy s1=_;unfold bP;rw[ax D.out]) G o h)⟩⟩);clear G s j;go_wp2_with fail
       go_roundw
       case rel=>exact⟨false,rfl,R⟩
       case measure=>rw[g.out,K.out];omega
      ·have g:=aa c.mu
       have R:=aa (show JI L S P Gd Bd u s0 a0 false q from⟨C.out,.inr ⟨c,l,p.out none (L.fail2 M.out (by show bP fy s1=_;unfold bP;rw[ax D.out]) G)⟩⟩);clear G l c;go_wp2_with fail
       go_roundw
       case rel=>exact⟨false,rfl,R⟩
       case measure=>rw[g.out,K.out];omega
     | false =>
      have D:=aa hcm;clear hcm;go_wp2_with fail;refine(qI y P s1 a1.out fy D.out).mono ?_;rintro e z ⟨rfl,x,hg⟩;have X:=aa (W.chg x λe=>hSF (by rw[e];exact hS));have Z:=aa (J.out _ _ _ Y.out x);have I:=aa (Q.trans x λi _ q=>by subst q;exact hS);have a2:=aa hg;clear x hg b0 b1;have N:=V.out z;have f0:=X.c;go_wp2_with fail;refine(ah.out z a a2.out Z.out I.out (by omega)).mono ?_;rintro e q ⟨rfl,T,l,c⟩;have C:=aa (I.then T);have g:=aa c.mu;have R:=aa (show JI L S P Gd Bd u s0 a0 false q from⟨C.out,.inr ⟨c,l,p.out none (L.fail1 M.out (by show bP fy s1=none;unfold bP;rw[ap (by rw[D.out];decide)]))⟩⟩);clear T l c f0 N;go_wp2_with fail
      go_roundw
      case rel=>exact⟨false,rfl,R⟩
      case measure=>rw[g.out,K.out];omega
  ·obtain⟨d,f,k,t,n,hh,hf,ao⟩:=a5.ex
   have E:=hh.c2;have HP:=aa a5;have HD:=aa ab;have HO:=aa w;clear a5 ab w hh;go_wp2_with fail;refine(fk wr P _ E true rfl).mono ?_;rintro e z ⟨rfl,rfl⟩;go_wp2_with fail;refine(iJ wr P HP.out bR).mono ?_;rintro e z ⟨rfl,x⟩;have HZ:=aa x;clear x;go_wp2_with fail;go_end0;exact⟨rfl,HC.on HZ.out,.inr ⟨HO.none1,ad.out _ _ HD.out (.of_below HZ.out),HP.on HZ.out⟩⟩
theorem uR (P:Nat) (u:World) (B F:Nat) (v0:Value) (h:PB u P) (hB:One u B (pB P) 51) (hF:One u F v0 1):
  Calls prog 112 #[pB B,pB F] u λe u'=>e=.returned (.tuple #[])/\Below u.heap.size u u'/\PB u' P:=by
 obtain⟨d,f,k,t,n,c,l,i⟩:=h.ex;have a:=c.c2;have j:=hB.c;clear c
 go_enter func112,ntmps112
 go_wp2_with fail;refine bC 1 ?_;rw[aO];go_wp2_with fail;refine(fk u P _ a true rfl).mono ?_;rintro e z ⟨rfl,rfl⟩;go_wp2_with fail;refine(iJ u P h bR).mono ?_;rintro e z ⟨rfl,g⟩;have b:=aa g;clear g;go_wp2_with fail;go_end0;exact⟨rfl,b.out,h.on b.out⟩
theorem HeadAt.grown {x y:Value} {k:Int} {t:Tx} {n:Int} (h:HeadAt u P x y k t n) {e:TypeId} (hown:u.ownsRow base e size v m xs) (he:e≠59) (hP:P<base) (hg:u.grownBy w1 v.ownBlock):HeadAt w1 P x y k t n:=by
 obtain⟨T,o,len,b,l,s,z,A,p,c1,c2,c,d,f⟩:=h.ex;have g:v.ownBlock≠some T:=λq=>by
  obtain⟨j,B,i⟩:=bG hown q;rw[f]at i;simp only[aq,Obj.cells.injEq]at i;exact he i.2.1.symm
 have a:w1.heap[T]?=u.heap[T]?:=hg.block T (ab f) (iq g);have r:w1.heap[P]?=u.heap[P]?:=hg.block P (ab l) λq=>by have:=cG hown _ q.symm;omega
 exact⟨T,o,len,b,by rw[r];exact l,s,z,A,by rw[aI (w:=u) a];exact p,by rw[aI (w:=u) a];exact c1,by rw[aI (w:=u) a];exact c2,c,d,by rw[a];exact f⟩
theorem PG.grown (h:PG u P s) {e:TypeId} (hown:u.ownsRow base e size v m xs) (he:e≠59) (hP:P<base) (hg:u.grownBy w1 v.ownBlock):PG w1 P s:=by
 obtain⟨T,o,a,r,n,y,z,A,B,b,c,d⟩:=h.ex;have f:v.ownBlock≠some T:=λq=>by
  obtain⟨j,F,g⟩:=bG hown q;rw[d]at g;simp only[aq,Obj.cells.injEq]at g;exact he g.2.1.symm
 have l:w1.heap[T]?=u.heap[T]?:=hg.block T (ab d) (iq f);have t:w1.heap[P]?=u.heap[P]?:=hg.block P (ab n) λq=>by have:=cG hown _ q.symm;omega
 obtain⟨E,C,D,p⟩:=h.tb;exact⟨⟨T,o,a,r,by rw[t];exact n,y,z,A,λi x hi=>by rw[aI (w:=u) l];exact B i x hi,b,c,by rw[l];exact d⟩,h.ne,h.last,h.ok,h.deep,
  E,C,D,p.grown hg p.size λk hk=>by have:=cG hown _ hk;omega⟩
theorem PB.grown (h:PB u P) {e:TypeId} (hown:u.ownsRow base e size v m xs) (he:e≠59) (he2:e≠122) (hP:P<base) (hg:u.grownBy w1 v.ownBlock):PB w1 P:=by
 obtain⟨d,f,k,t,n,g,j,c,a,b⟩:=h.ex;refine⟨d,f,k,t,n,g.grown hown he hP hg,j,c,a,?_⟩;rw[hg.block f (ab b) λq=>?_]
 ·exact b
 ·obtain⟨i,l,g⟩:=bG hown q.symm
  rw[b]at g;simp only[aq,Obj.cells.injEq]at g;exact he2 g.2.1.symm
theorem Tryz.info261:(Tryz.prog.info? 261).map (λi=>(i.zero,i.size,i.bytes))=some (some (.pointer none),1,8):=by kernel_rfl
def F9:Lst (List Ex) where
 one n a s:=(cZ n 1 s).bind λr=>some (a++[r.1],r.2)
 all n b a s:=jT n b a s
 zero b a s:=rfl
 succ n b a s:=by
  show jT (n+1) b a s=_;rw[jT];split
  ·rfl
  ·cases(if b=true then some s else bP fy s)with
   | none=>rfl
   | some s1 =>
    show(cZ n 1 s1).bind _=((cZ n 1 s1).bind _).bind _;cases cZ n 1 s1<;>rfl
 sz:=List.length
 szle n a s r h:=by
  cases hr:cZ n 1 s with
  | none=>rw[hr]at h;cases h
  | some q=>rw[hr]at h;cases h;simp
 mono1 a s:=λn r h=>bJ h (λ_ e=>(ia n).1 _ _ _ e) λ_ _ e=>e
 mono b a s:=uO b a s
structure CallAt (v:World) (XB b lo:Nat) (nm:Tx) (av:Value) (bs:List Nat):Prop where
 box:One v XB (pB b) 261
 node:∃ln,v.heap[b]?=some (exC 4 0 nm [] (.pointer none) (.pointer none) av ln)
 own:v.ownsRow lo 261 1 av bs.length (bs.map pB)
def vZ (XB b lo:Nat) (nm:Tx) (v:World) (l:List Ex):Prop:=∃av bs,CallAt v XB b lo nm av bs/\dn v (λk=>lo<=k/\av.ownBlock≠some k) bs l/\bs.length=l.length
def Gl (XB b lo:Nat) (nm:Tx) (v:World):Prop:=∃av bs,CallAt v XB b lo nm av bs
theorem fV {w':World} {e:TypeId} (h:w.ownsRow base e size v n xs) (hs:bA base w w'):w'.ownsRow base e size v n xs:=by
 obtain⟨f,c⟩:=h;refine⟨f,?_⟩;rcases c with c|⟨g,a,b,j,d,i,r⟩
 ·exact .inl c
 ·exact .inr ⟨g,a,b,j,d,hs g _ d i,r⟩
theorem xJ (N:Nat) (hE:fH N) (v:World) (P XB b PX lo:Nat) (nm:Tx) (av:Value) (bs:List Nat) (s:PS) (h:PG v P s) (hN:s.ts.length+1<=N) (hC:CallAt v XB b lo nm av bs) (hPX:One v PX (pB P) 51) (h1:¬XB=P) (h2:¬b=P) (h3:¬PX=P) (hlo:P<lo):
  Calls prog 169 #[pB P,.int .i64 1] v.drew λe q=>∃eb,e=.returned (pB eb)/\(q.cell? ⟨XB,0,none⟩=some (pB b)/\q.cell? ⟨b,6,none⟩=some av/\q.cell? ⟨PX,0,none⟩=some (pB P))/\Hid (iR P (λn=>cZ n 1 s) (s.ts.length-1) s.d v (.returned (pB eb)) q)/\Hid (CallAt q XB b lo nm av bs)/\Hid (One q PX (pB P) 51):=by
 refine(hE v.drew P s 1 (h.on (ai _ _).drew) hN).mono ?_;rintro e q ⟨m,eb,rfl,j,c⟩;have a:Chg (·=P) v q:=(Chg.of_below (ai _ _).drew).then m;obtain⟨l,hn⟩:=hC.node;have g:q.heap[b]?=some (exC 4 0 nm [] (.pointer none) (.pointer none) av l):=by rw[a.block _ (ab hn) h2];exact hn
 have f:=hC.box.chg a h1;have i:=hPX.chg a h3;exact⟨eb,rfl,⟨f.c,(ae g 6).trans rfl,i.c⟩,⟨a,eb,rfl,j,c⟩,⟨f,⟨l,g⟩,fV hC.own (a.same λk hk e=>by omega)⟩,i⟩
theorem me {T:TypeId} (hown:q.ownsRow lo T 1 av n xs) (hg:(q.alloc o).grownBy w1 av.ownBlock) {u:Value} (hc:q.cell? p=some u) (hp:p.block<lo):w1.cell? p=some u:=by
 have a:p.block<q.heap.size:=ry q _ hc;have e:w1.heap[p.block]?=q.heap[p.block]?:=by
  rw[hg.block p.block (by simp;omega) λe=>by have:=cG hown _ e.symm;omega,aK _ _ _ a]
 rw[aI (w:=q) e];exact hc
theorem Gb {T:TypeId} (hown:q.ownsRow lo T 1 av n xs) (hg:(q.alloc o).grownBy w1 av.ownBlock) {p1 p2 p3:Addr} {u1 u2 u3:Value} (g0:q.cell? p1=some u1) (g1:q.cell? p2=some u2) (g2:q.cell? p3=some u3) (h1:p1.block<lo) (h2:p2.block<lo) (h3:p3.block<lo):
  w1.cell? p1=some u1/\w1.cell? p2=some u2/\w1.cell? p3=some u3:=⟨me hown hg g0 h1,me hown hg g1 h2,me hown hg g2 h3⟩
theorem fY {T:TypeId} (hown:q.ownsRow lo T 1 av n xs) (hg:(q.alloc o).grownBy w1 av.ownBlock) {b:Nat} {ob:Obj} (hb:q.heap[b]?=some ob) (hlt:b<lo):w1.heap[b]?=some ob:=by
 rw[hg.block b (by have:=ab hb;simp;omega) λe=>by have:=cG hown _ e.symm;omega,aK _ _ _ (ab hb)];exact hb
theorem Gc {b:Nat} (hc:CallAt q XB b lo nm av bs) (hg:(q.alloc o).grownBy w1 av.ownBlock) (hlt:b<lo):w1.frozen? ⟨b,6,none⟩=false:=by
 obtain⟨a,hn⟩:=hc.node;exact aD w1 b 6 _ _ (fY hc.own hg hn hlt)
theorem gP {p':Addr} {u:Value} (h:q.cell? p'=some u) (hn:p.block≠p'.block):(q.setCell p v).cell? p'=some u:=by
 rw[bf _ _ _ _ (λe=>hn (by rw[e]))];exact h
theorem CallAt.app {b:Nat} (hc:CallAt q XB b lo nm av bs) (hg:(q.alloc (.cells #[pB eb] 261)).grownBy w1 av.ownBlock)
 (hown:w1.ownsRow lo 261 1 (.slice (some ⟨gg,0,none⟩) (bs.length+1) cap) (bs.length+1) (bs.map pB++[pB eb])) (h1:XB<lo) (h2:b<lo) (h3:¬XB=b):
  CallAt (w1.setCell ⟨b,6,none⟩ (.slice (some ⟨gg,0,none⟩) (bs.length+1) cap)) XB b lo nm (.slice (some ⟨gg,0,none⟩) (bs.length+1) cap) (bs++[eb]):=by
 obtain⟨d,hn⟩:=hc.node;have c:=fY hc.own hg hn h2;have a:One w1 XB (pB b) 261:=fY hc.own hg hc.box h1;refine⟨a.setOther (p:=⟨b,6,none⟩) (iq h3) _,⟨d,aA (j:=6) c _⟩,?_⟩;rw[ac,dT];exact bg hown (show b<lo from h2) _
theorem dn.snoc {A:Nat->Prop}:∀{bs:List Nat} {xs:List Ex} {b:Nat} {x:Ex},dn w A bs xs->bK w A b x->dn w A (bs++[b]) (xs++[x])
 | [],[],b,x,_,h=>by show dn w A [b] [x];rw[dn,dn];exact⟨h,trivial⟩
 | c::bs,y::xs,b,x,h,hx=>by
  rw[dn]at h;show dn w A (c::(bs++[b])) (y::(xs++[x]));rw[dn];exact⟨h.1,dn.snoc h.2 hx⟩
 | [],_::_,b,x,h,_=>by rw[dn]at h<;>first|exact h.elim|(intros;simp_all)
 | _::_,[],b,x,h,_=>by rw[dn]at h<;>first|exact h.elim|(intros;simp_all)
theorem xC {v:World} {b:Nat} {l:List Ex} 
 (hX:dn v (λk=>lo<=k/\av.ownBlock≠some k) bs l) (hbl:bs.length=l.length) (hav:v.ownsRow lo 261 1 av bs.length (bs.map pB)) (hres:iR P (λn=>cZ n 1 s) (s.ts.length-1) s.d v (.returned (pB eb)) q) (hc:CallAt q XB b lo nm av bs)
 (hg:(q.alloc (.cells #[pB eb] 261)).grownBy w1 av.ownBlock) (hown:w1.ownsRow lo 261 1 (.slice (some ⟨gg,0,none⟩) (bs.length+1) cap) (bs.length+1) (bs.map pB++[pB eb])) (hat:av.ownBlock=some gg\/gg=q.heap.size+1)
 (h1:XB<lo) (h2:b<lo) (h3:¬XB=b) (hPb:P<b) (hlo:P<lo) (hlv:lo<=v.heap.size):
  pC (λk=>k=P\/k=b\/lo<=k) P (λn=>F9.one n l s) (s.ts.length-1) s.d (vZ XB b lo nm) (Gl XB b lo nm) v (.returned (.tuple #[])) (w1.setCell ⟨b,6,none⟩ (.slice (some ⟨gg,0,none⟩) (bs.length+1) cap)):=by
 obtain⟨g,E,y,J,f⟩:=hres;simp only[Ending.returned.injEq,Value.pointer.injEq,aq,Addr.mk.injEq,A9]at y;subst y;have a:=hc.app hg hown h1 h2 h3;have c:(q.alloc (.cells #[pB eb] 261)).ownsRow lo 261 1 av bs.length (bs.map pB):=hc.own.alloc _;obtain⟨O,hn⟩:=hc.node;have j:=fY hc.own hg hn h2;have F:Chg (λk=>k=P\/k=b\/lo<=k) v (w1.setCell ⟨b,6,none⟩ (.slice (some ⟨gg,0,none⟩) (bs.length+1) cap)):=
  ((((g.mono (S':=λk=>k=P\/k=b\/lo<=k) λi _ e=>.inl e)).alloc _).grown hg λk hk _=>.inr (.inr (cG hc.own k hk))).setCell (λ_=>.inr (.inl rfl)) _
 refine⟨rfl,F,?_⟩;rcases f with⟨x,K,t,I,hd,r,w⟩|⟨t,N,u⟩
 ·refine .inl ⟨l++[x],K,t.fst rfl,I,hd,⟨_,bs++[eb],a,?_,by simp[hbl]⟩,?_⟩
  ·have L:aX (λk=>lo<=k/\k≠gg/\av.ownBlock≠some k/\k<q.heap.size) q (w1.setCell ⟨b,6,none⟩ (.slice (some ⟨gg,0,none⟩) (bs.length+1) cap)):=λk o ⟨k1,k2,k3,k4⟩ hk=>by
    rw[aM _ _ _ _ (show k≠b by omega),hg.block k (by simp;omega) (iq k3),aK _ _ _ k4];exact hk
   have p:dn q (λk=>lo<=k/\av.ownBlock≠some k) bs l:=dn.onA (g.sameOn λk hk e=>by have:=hk.1;omega) hX;have z:dn q (λk=>lo<=k/\k≠gg/\av.ownBlock≠some k/\k<q.heap.size) bs l:=p.weak λk hk ⟨h,h'⟩=>⟨h,λe=>by
    subst e;rcases hat with e|e
    ·exact h' e
    ·omega,h',hk⟩
   have A:bK q (λk=>lo<=k/\k≠gg/\av.ownBlock≠some k/\k<q.heap.size) eb x:=r.weak λk hk h=>by
    have H:v.heap.size<=k:=h;have m:av.ownBlock≠some k:=λe=>by obtain⟨D,M,G⟩:=bG hav e;have:=ab G;omega
    refine⟨by omega,λe=>?_,m,hk⟩;subst e;rcases hat with e|e
    ·exact m e
    ·omega
   have B:dn q (λk=>lo<=k/\k≠gg/\av.ownBlock≠some k/\k<q.heap.size) (bs++[eb]) (l++[x]):=z.snoc A;have C:=dn.onA L B;exact C.weak λk _ ⟨k1,k2,_⟩=>⟨k1,λe=>k2 (by simp only[Value.ownBlock,aq]at e;exact e.symm)⟩
  ·exact((w.on (az)).grown c (by decide) hlo hg).setOther j (by decide) hPb 6 _
 ·exact .inr ⟨t.none1,⟨_,bs++[eb],a⟩,((u.on (az)).grown c (by decide) (by decide) hlo hg).setOther j (by decide) (by decide) hPb 6 _⟩
def Lx (R:Nat->World->Prop) (XB b lo:Nat) (nm:Tx) (av:Value) (bs:List Nat) (e:Ending) (w':World):Prop:=
 ∃eb q w1 gg cap,e=.returned (.tuple #[])/\R eb q/\CallAt q XB b lo nm av bs/\(q.alloc (.cells #[pB eb] 261)).grownBy w1 av.ownBlock /\
  w1.ownsRow lo 261 1 (.slice (some ⟨gg,0,none⟩) (bs.length+1) cap) (bs.length+1) (bs.map pB++[pB eb])/\(av.ownBlock=some gg\/gg=q.heap.size+1)/\w'=w1.setCell ⟨b,6,none⟩ (.slice (some ⟨gg,0,none⟩) (bs.length+1) cap)
theorem qW (R:Nat->World->Prop) (v:World) (P XB b PX lo:Nat) (nm:Tx) (av:Value) (bs:List Nat) (hC:CallAt v XB b lo nm av bs) (hPX:One v PX (pB P) 51) (hl:bs.length<=1000000) (h4:XB<lo) (h5:b<lo) (h6:PX<lo)
 (hE:Calls prog 169 #[pB P,.int .i64 1] v.drew λe q=>∃eb,e=.returned (pB eb)/\(q.cell? ⟨XB,0,none⟩=some (pB b)/\q.cell? ⟨b,6,none⟩=some av/\q.cell? ⟨PX,0,none⟩=some (pB P))/\Hid (R eb q)/\Hid (CallAt q XB b lo nm av bs)/\lo<=q.heap.size):
  Calls prog 248 #[pB XB,pB PX] v (Lx R XB b lo nm av bs):=by
 have s:=hC.box.c;have c2:=hPX.c;obtain⟨J,c⟩:=hC.node;have c1:v.cell? ⟨b,6,none⟩=some av:=(ae c 6).trans rfl;have r:=aa hE;have A:=aH s;have B:=aH c1;have C:=aH c2;obtain⟨D,u,j,k,l⟩:=cX Tryz.info261;clear c hE
 go_enter func248,ntmps248
 go_wp2_with fail
 go_region_law (first
   | (go_simp;go_at_call 169;refine r.mono ?_;rintro e q ⟨eb,rfl,⟨m,n,o⟩,g,d,p⟩;have x:=aH m;have y:=aH n;have z:=aH o)
   | (refine step_append_lies _ (by rfl) _ _ _ (by rfl) lo 261 D _ 1 8 underlying267 u j k l rfl (by omega) av bs.length (bs.map pB) (by rfl) (d.out.own.alloc _) ⟨q.heap.size,0,none⟩ 1 1 [pB eb] (by rfl) (by rfl) (eu q _ _) (by simp[Value.oneCell']) (by omega) (by unfold maxLen;omega) (by omega) (by simp;omega) (q.heap.size+1) (by simp) ?_;intro t h E f a i w;obtain⟨F,G,H⟩:=Gb d.out.own a m n o h4 h5 h6;have I:=Gc d.out a h5))
 all_goals (go_end0;exact⟨eb,q,E,t,h,rfl,g.out,d.out,a,f,i,rfl⟩)
def vV (N:Nat):Prop:=∀w P s,PG w P s->s.ts.length<=N->Calls prog 171 #[pB P] w (iR P (λn=>fU n s) (s.ts.length-1) s.d w)
def Ea (N:Nat):Prop:=∀w P s,PG w P s->s.ts.length+1<=N->Calls prog 212 #[pB P] w (iR P (λn=>gl n s) (s.ts.length-1) s.d w)
def Ls (XB X:Nat) (t:Tx) (u:World) (x:Ex):Prop:=One u XB (pB X) 261/\∃rb ln,u.heap[X]?=some (exC 3 0 [] t (.pointer none) (pB rb) (.slice none 0 0) ln)/\bK u (Ge (XB+1)) rb x
def JL (XB X:Nat) (t:Tx) (u:World):Prop:=One u XB (pB X) 261/\∃r ln,u.heap[X]?=some (exC 3 0 [] t (.pointer none) r (.slice none 0 0) ln)
theorem uq (R:Nat->World->Prop) (u:World) (P B XB X:Nat) (t:Tx) (ln:Int) (r0:Value) (hB:One u B (pB P) 51) (hXB:One u XB (pB X) 261) (hX:u.heap[X]?=some (exC 3 0 [] t (.pointer none) r0 (.slice none 0 0) ln)) (hBP:¬B=P) (hXBP:¬XB=P) (hXP:¬X=P) (hBX:¬B=X) (hXBX:¬XB=X)
 (hE:Calls prog 212 #[pB P] u.drew λe q=>Chg (·=P) u q/\∃eb,e=.returned (pB eb)/\R eb q):
  Calls prog 246 #[pB B,pB XB] u λe w'=>∃eb q,e=.returned (.tuple #[])/\Chg (·=P) u q/\R eb q/\w'=q.setCell ⟨X,5,none⟩ (pB eb):=by
 have h:=hB.c;have j:=hXB.c;have g:=aa (show Calls prog 212 #[pB P] u.drew λe q=>∃eb,e=.returned (pB eb)/\(q.cell? ⟨B,0,none⟩=some (pB P)/\q.cell? ⟨XB,0,none⟩=some (pB X))/\(q.cell? ⟨X,5,none⟩=some r0/\q.frozen? ⟨X,5,none⟩=false)/\Hid (Chg (·=P) u q)/\Hid (R eb q) from hE.mono λe q ⟨hc,eb,he,c⟩=>by
  have a:q.heap[X]?=some (exC 3 0 [] t (.pointer none) r0 (.slice none 0 0) ln):=by rw[hc.block _ (ab hX) hXP];exact hX
  exact⟨eb,he,⟨(hB.chg hc hBP).c,(hXB.chg hc hXBP).c⟩,⟨(ae a 5).trans rfl,aD q X 5 _ _ a⟩,hc,c⟩)
 have i:u.cell? ⟨X,5,none⟩=some r0:=(ae hX 5).trans rfl;clear hE
 go_enter func246,ntmps246
 go_wp2_with fail
 go_region_held3 (λw'=>w'.cell? ⟨B,0,none⟩=some (pB P)/\w'.cell? ⟨XB,0,none⟩=some (pB X))
  (first
   | (exact⟨h,j⟩)
   | (exact⟨d,f⟩)
   | (exact⟨gP (p:=⟨X,5,none⟩) d (iq hBX),gP (p:=⟨X,5,none⟩) f (iq hXBX)⟩)
   | go_keep)
  (first
   | (go_at_call 212;refine g.mono ?_;rintro e q ⟨eb,rfl,⟨d,f⟩,⟨k,l⟩,b,c⟩))
 all_goals (go_end0;exact⟨eb,q,rfl,b.out,c.out,rfl⟩)
theorem vj (N:Nat) (hE:fH N) (v:World) (P XB b PX lo:Nat) (nm:Tx) (l:List Ex) (s:PS) (h:PG v P s) (hN:s.ts.length+1<=N) (hG:vZ XB b lo nm v l) (hPX:One v PX (pB P) 51) (hl:l.length<=1000000) (h4:XB<lo) (h5:b<lo) (h6:PX<lo)
 (n1:¬XB=P) (n2:¬b=P) (n3:¬PX=P) (n4:¬XB=b) (hPb:P<b) (hlo:lo<=v.heap.size):
  Calls prog 248 #[pB XB,pB PX] v (pC (λk=>k=P\/k=b\/lo<=k) P (λn=>F9.one n l s) (s.ts.length-1) s.d (vZ XB b lo nm) (Gl XB b lo nm) v):=by
 obtain⟨p,r,j,u,o⟩:=hG;refine(qW (λg q=>iR P (λn=>cZ n 1 s) (s.ts.length-1) s.d v (.returned (pB g)) q) v P XB b PX lo nm p r j hPX (by omega) h4 h5 h6
  ((xJ N hE v P XB b PX lo nm p r s h hN j hPX n1 n2 n3 (by omega)).mono λe q ⟨g,he,hc,i,a,_⟩=>⟨g,he,hc,i,a,ay hlo i.out.1.size⟩)).mono ?_
 rintro e x ⟨g,q,y,w,t,rfl,i,a,c,f,m,rfl⟩;exact xC u o j.own i a c f m h4 h5 n4 hPb (by omega) hlo
theorem xD (v:World) (P XB b PX lo:Nat) (nm:Tx) (l:List Ex) (h:PB v P) (hG:vZ XB b lo nm v l) (hPX:One v PX (pB P) 51) (hl:l.length<=1000000) (h4:XB<lo) (h5:b<lo) (h6:PX<lo)
 (n1:¬XB=P) (n2:¬b=P) (n3:¬PX=P) (n4:¬XB=b) (hPb:P<b) (hlo:lo<=v.heap.size):
  Calls prog 248 #[pB XB,pB PX] v λe v'=>e=.returned (.tuple #[])/\Chg (λk=>k=P\/k=b\/lo<=k) v v'/\Gl XB b lo nm v'/\PB v' P:=by
 obtain⟨u,w,o,D,z⟩:=hG;refine(qW (λn q=>Chg (·=P) v q/\PB q P) v P XB b PX lo nm u w o hPX (by omega) h4 h5 h6
  ((tB v.drew P (h.on (ai _ _).drew) 1).mono ?_)).mono ?_
 ·rintro e q ⟨A,n,rfl,B,E,f⟩
  have c:Chg (·=P) v q:=(Chg.of_below (ai _ _).drew).then A;obtain⟨t,hn⟩:=o.node;have j:q.heap[b]?=some (exC 4 0 nm [] (.pointer none) (.pointer none) u t):=by rw[c.block _ (ab hn) n2];exact hn
  have g:=o.box.chg c n1;have s:=hPX.chg c n3;exact⟨n,rfl,⟨g.c,(ae j 6).trans rfl,s.c⟩,⟨c,f⟩,⟨g,⟨t,j⟩,fV o.own (c.same λk hk e=>by omega)⟩,ay hlo c.size⟩
 ·rintro e F ⟨n,q,G,C,x,rfl,⟨p,f⟩,d,a,m,y,rfl⟩
  obtain⟨t,hn⟩:=d.node;have r:=fY d.own a hn h5;refine⟨rfl,((((p.mono (S':=λk=>k=P\/k=b\/lo<=k) λi _ e=>.inl e)).alloc _).grown a λk hk _=>.inr (.inr (cG d.own k hk))).setCell (λ_=>.inr (.inl rfl)) _,⟨_,_,d.app a m h4 h5 n4⟩,?_⟩;exact((f.on (az)).grown (d.own.alloc (.cells #[pB n] 261)) (by decide) (by decide) (by omega) a).setOther r (by decide) (by decide) hPb 6 _
def inK (s1:PS) (n:Nat):Option (Unit×PS):=(bP bR s1).bind λs2=>some ((),s2)
theorem vk (u:World) (P B:Nat) (s1:PS) (h:PG u P s1) (hB:One u B (pB P) 51):
  Calls prog 247 #[pB B] u (pC (·=P) P (inK s1) s1.ts.length s1.d (λ_ _=>True) (λ_=>True) u):=by
 have i:=hB.c
 go_enter func247,ntmps247
 cases hw:isW bR s1 with
 | true =>
  have a:=aa hw;clear hw;go_wp2_with fail;refine(kG u P s1 h bR a.out).mono ?_;rintro e z ⟨rfl,c,b⟩;have g:=aa c;have f:=aa b;clear c b;go_wp2_with fail;go_end0;refine⟨rfl,g.out,.inl ⟨(),aS s1,⟨0,by unfold inK bP;rw[ax a.out];rfl⟩,?_,rfl,trivial,f.out⟩⟩;unfold aS;split<;>simp
 | false =>
  have a:=aa hw;clear hw;go_wp2_with fail;refine(qI u P s1 h bR a.out).mono ?_;rintro e z ⟨rfl,c,b⟩;have g:=aa c;have f:=aa b;clear c b;go_wp2_with fail;go_end0;exact⟨rfl,g.out,.inr ⟨λn=>by unfold inK bP;rw[ap (by rw[a.out];decide)];rfl,trivial,f.out⟩⟩
theorem xE (u:World) (P B:Nat) (h:PB u P) (hB:One u B (pB P) 51):
  Calls prog 247 #[pB B] u λe u'=>e=.returned (.tuple #[])/\Chg (·=P) u u'/\True/\PB u' P:=by
 have c:=hB.c
 go_enter func247,ntmps247
 go_wp2_with fail;refine(iJ u P h bR).mono ?_;rintro e z ⟨rfl,b⟩;have a:=aa b;clear b;go_wp2_with fail;go_end0;exact⟨rfl,.of_below a.out,trivial,h.on a.out⟩
end Go.Proofs.YtbeaaimcpkogcaaGreatDoor
