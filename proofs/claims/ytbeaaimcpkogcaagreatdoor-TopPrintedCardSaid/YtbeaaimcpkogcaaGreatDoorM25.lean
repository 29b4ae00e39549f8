/- Lemmas on the way to the claim. -/
import Derived.Test.YtbeaaimcpkogcaaGreatDoorM22
set_option linter.unusedSimpArgs false
set_option linter.unusedVariables false
set_option maxHeartbeats 4000000
set_option maxRecDepth 100000
namespace Go.Proofs.YtbeaaimcpkogcaaGreatDoor
open Go.Proofs.Tryz Go.RowKit
variable {s s1 s1' s2:PS} {o:Option PS} {u v v' w y z:World} {P X XB b b2 dd lo m:Nat} {nm t:Tx} {x:Ex} {f:Nat->Option (Ex×PS)} {c:Int}
theorem rS {A:Type} (L:Lst A) (S:Nat->Prop) (P:Nat) (w:World) (s:PS) (a0:A) (Gd:World->A->Prop) (Bd:World->Prop) (fid:FuncId) (caps:Array Value)
 (h:PG w P s) (ha:Gd w a0) (hS:S P) (hnB:¬S w.heap.size) (hnF:¬S (w.heap.size+1)) (hGB:∀u a,Gd u a->Bd u)
 (hone:∀v a s1,PG v P s1->Gd v a->Chg S w v->w.heap.size+2<=v.heap.size->s1.ts.length+1<=s.ts.length->L.sz a+s1.ts.length<=L.sz a0+s.ts.length->Calls prog fid caps v (pC S P (λn=>L.one n a s1) (s1.ts.length-1) s1.d Gd Bd v))
 (honeB:∀v a,PB v P->Gd v a->Chg S w v->w.heap.size+2<=v.heap.size->L.sz a<=L.sz a0+s.ts.length->Calls prog fid caps v λe v'=>e=.returned (.tuple #[])/\Chg S v v'/\Bd v'/\PB v' P)
 (hcall:∀u,Sem.run prog (callFunc fid caps) u=.ok (.enter fid caps) u)
 (hG:∀v v' a,Gd v a->Chg (·=P) v v'->Gd v' a) (hBk:∀v v',Bd v->Chg (·=P) v v'->Bd v'):
  Calls prog 61 #[pB P,.func (.func fid) #[] caps] w (pC S P (λn=>inW cD s λs1=>CR L a0 s1 n) (s.ts.length-1) s.d Gd Bd w):=by
 have t:∀(u:World) (o:Obj),(u.alloc o).heap.size=u.heap.size+1:=λu o=>ah _ _;generalize g:w.alloc (.cells #[pB P] 51)=w1;generalize j:w1.alloc (.cells #[.func (.func fid) #[] caps] 1)=w2;have s1:w1.heap.size=w.heap.size+1:=by rw[<- g,t]
 have F:w2.heap.size=w.heap.size+2:=by rw[<- j,t,s1]
 have r:Below w1.heap.size w1 w2:=by rw[<- j];exact az
 have z:Below w.heap.size w w1:=by rw[<- g];exact az
 have l:=aa (show One w2 w.heap.size (pB P) 51 from(show One w1 w.heap.size (pB P) 51 by rw[<- g];exact af _ _).below r);have y:=aa (show One w2 (w.heap.size+1) (.func (.func fid) #[] caps) 1 by rw[<- j,<- s1];exact af _ _);have k:=aa (show Below w.heap.size w w2 from z.trans (r.mono (by omega)));have B:=h.lt;have D:=aa (h.on k.out);clear z r t;have E:=l.c;have f:∀(v:World) (x:Value),Chg (·=P) v (v.setCell ⟨P,1,none⟩ x):=λv x=>Chg.setCell (S:=(·=P)) (Chg.refl _ v) (λ_=>rfl) x;have p:=aa (vd (A:=A) S P w2 cD s D.out hS 112 #[pB w.heap.size,pB (w.heap.size+1)] (λs1 n=>CR L a0 s1 n) Gd Bd
  (λu q hq b hl=>AA L S P u q a0 Gd Bd w.heap.size (w.heap.size+1) fid caps hq (hG _ _ _ (hG _ _ _ ha (.of_below k.out)) b) hS (l.chg b (by omega)) (y.chg b (by omega)) hnB hnF hGB
   (λv a s1 h1 h2 h3 h4 h5=>hone v a s1 h1 h2 (((Chg.of_below (S:=S) k.out).trans b λi _ q=>by subst q;exact hS).then h3) (by have:=b.size;have:=h3.size;omega) (by omega) (by omega))
   (λv a h1 h2 h3 h4=>honeB v a h1 h2 (((Chg.of_below (S:=S) k.out).trans b λi _ q=>by subst q;exact hS).then h3) (by have:=b.size;have:=h3.size;omega) (by omega)) hcall hG hBk)
  (λu hq b=>(uR P u w.heap.size (w.heap.size+1) _ hq (l.chg b (by omega)) (y.chg b (by omega))).mono λe u' ⟨h1,h2,h3⟩=>⟨h1,.of_below h2,hBk _ _ (hBk _ _ (hGB _ _ (hG _ _ _ (hG _ _ _ ha (.of_below k.out)) b)) (.refl _ _)) (.of_below h2),h3⟩)
  (λu=>by kernel_rfl)
  (λu a v q=>hG _ _ _ q (f u v))
  (λu v q=>hBk _ _ q (f u v)))
 clear hone honeB hcall hG hBk f
 go_enter func61,ntmps61
 go_wp2_with fail;refine p.mono ?_;rintro e v ⟨rfl,b,c⟩;have C:=aa ((Chg.of_below (S:=S) k.out).then b);have m:=aa c;clear b c g j s1 F E;go_wp2_with fail;go_end0;exact⟨rfl,C.out,m.out⟩
theorem vN {o:Option (Ex×PS)} (hk:(hd s).kind=1) (h:Out (λn=>dN n s) o):o=some (.name (hd s).text,aS s):=by
 have e:∀n,dN (n+1) s=some (.name (hd s).text,aS s):=λn=>by
  have a:isW cD s=false:=by unfold isW;rw[hk];simp
  rw[dN,ap (by rw[a];decide),ap (by rw[hk];decide)];unfold cR;rw[ax hk];rfl
 cases o with
 | none=>have:=(e 0).symm.trans (h 1);cases this
 | some r =>
  obtain⟨n,hn⟩:=h;cases n with
  | zero=>cases hn
  | succ n=>exact hn.symm.trans (e n)
theorem kD {base base':Nat} {e:TypeId} {size:Nat} {v:Value} {n:Nat} {xs:List Value} (h:w.ownsRow base e size v n xs) (hb:base'<=base):w.ownsRow base' e size v n xs:=by
 refine⟨h.1,?_⟩;rcases h.2 with c|⟨g,a,b,d,c,r⟩
 ·exact .inl c
 ·exact .inr ⟨g,a,b,d,ay hb c,r⟩
theorem CallAt.chg {av:Value} {bs:List Nat} (h:CallAt v XB b lo nm av bs) (hc:Chg (·=P) v v') (h1:¬XB=P) (h2:¬b=P) (h3:P<lo):CallAt v' XB b lo nm av bs:=by
 obtain⟨a,hn⟩:=h.node;exact⟨h.box.chg hc h1,⟨a,by rw[hc.block _ (ab hn) h2];exact hn⟩,fV h.own (hc.same λk hk e=>by omega)⟩
theorem vZ.chg {l:List Ex} (h:vZ XB b lo nm v l) (hc:Chg (·=P) v v') (h1:¬XB=P) (h2:¬b=P) (h3:P<lo):vZ XB b lo nm v' l:=by
 obtain⟨a,c,h,f,d⟩:=h;exact⟨a,c,h.chg hc h1 h2 h3,dn.onA (hc.sameOn λk hk e=>by have:=hk.1;omega) f,d⟩
def G5 (s2:PS) (n:Nat):Option (List Ex×PS):=inW cD s2 λs1=>CR F9 [] s1 n
theorem CJ (s2:PS):ld λn=>G5 s2 n:=λn r h=>qQ h λ_ _ h=>bJ h (λ_ e=>uO _ _ _ _ _ e) λ_ _ e=>e
def lO (s:PS) (n:Nat) (r:Ex×PS):Option (Ex×PS):=if(hd s).kind=1/\isW cD r.2=true then(G5 r.2 n).bind λl=>some (.call (hd s).text l.1,l.2)else some r
theorem xB (hF:∀m,dG (m+1) s=(dN m s).bind (lO s m))
 (ha:Out (λn=>dN n s) (some (x,s2))) (hop:isW cD s2=false):Out (λn=>dG n s) (some (x,s2)):=by
 obtain⟨n,hn⟩:=ha;refine⟨n+1,?_⟩;show dG (n+1) s=_;rw[hF,show dN n s=some (x,s2) from hn];exact ap λ⟨_,q⟩=>by rw[show isW cD s2=true from q]at hop;cases hop
theorem AO (hF:∀m,dG (m+1) s=(dN m s).bind (lO s m))
 (hk:(hd s).kind=1) (ha:Out (λn=>dN n s) (some (x,s2))) (hop:isW cD s2=true):
  (∀l s3,Out (λn=>G5 s2 n) (some (l,s3))->Out (λn=>dG n s) (some (.call (hd s).text l,s3)))/\(Out (λn=>G5 s2 n) none->Out (λn=>dG n s) none):=by
 have e:∀n,lO s n (x,s2)=(G5 s2 n).bind λl=>some (.call (hd s).text l.1,l.2):=λn=>by unfold lO;rw[ax ⟨hk,hop⟩]
 have a:ld λn=>lO s n (x,s2):=λn r h=>by
  have h:lO s n (x,s2)=some r:=h;show lO s (n+1) (x,s2)=some r;rw[e]at h ⊢;exact bJ h (λ_ e=>CJ _ _ _ e) λ_ _ e=>e
 refine⟨λl s3 h=>?_,λh=>?_⟩
 ·refine Out.up (Out.some2 (qK s) ha a ?_) rfl hF
  obtain⟨n,hn⟩:=h;exact⟨n,by show lO s n (x,s2)=_;rw[e,show G5 s2 n=_ from hn];rfl⟩
 ·exact Out.up (Out.none2 (qK s) ha (g:=lO s) λn=>by rw[e,show G5 s2 n=none from h n];rfl) rfl hF
theorem nk (N:Nat) (hE:fH N) (y:World) (P T:Nat) (k:Int) (t:Tx) (n:Int) (wa wd:Tx) (s:PS) (h:PG y P s) (hN:s.ts.length<=N) (hv:TV y T k t n) (hne:¬T=P):
  Calls prog 215 #[pB P,.string ⟨wa.toArray⟩,.string ⟨wd.toArray⟩] y.drew λe z=>∃b,e=.returned (pB b)/\z.cell? ⟨T,2,none⟩=some (.int .i64 n)/\b<z.heap.size/\Hid (iR P (λn=>eS n wa wd s) (s.ts.length-1) s.d y (.returned (pB b)) z):=by
 refine(pX N hE y.drew P wa wd s (h.on (ai _ _).drew) hN).mono ?_;rintro e z ⟨i,b,rfl,g,a⟩;have c:Chg (·=P) y z:=(Chg.of_below (ai _ _).drew).then i;refine⟨b,rfl,(hv.chg c hne).c.2.2,?_,⟨c,b,rfl,g,a⟩⟩;rcases a with⟨x,q,l,p,hd,f,o⟩|⟨l,j,m⟩
 ·exact f.junk.lt
 ·exact j.lt
theorem iR.new (h:iR P f m dd w (.returned (pB b)) z) (n:Int):
  iR P (λn=>(f n).bind λr=>some (.new r.1,r.2)) m dd w (.returned (pB z.heap.size)) (z.alloc (exC 7 0 [] [] (pB b) (.pointer none) (.slice none 0 0) n)):=by
 obtain⟨d,q,k,o,a⟩:=h;simp only[Ending.returned.injEq,Value.pointer.injEq,aq,Addr.mk.injEq,A9]at k;subst k;refine⟨d.alloc _,_,rfl,d.size,?_⟩;have c:Below z.heap.size z (z.alloc (exC 7 0 [] [] (pB b) (.pointer none) (.slice none 0 0) n)):=az;rcases a with⟨x,p,g,l,hd,e,j⟩|⟨g,s,i⟩
 ·refine .inl ⟨.new x,p,g.fst rfl,l,hd,?_,j.on c⟩
  rw[bK];exact⟨d.size,n,b,af _ _,e.on (bA.below c _)⟩
 ·exact .inr ⟨g.none1,⟨_,_,[],[],_,_,_,_,af _ _⟩,i.on c⟩
theorem iR.from {m':Nat} {g:Nat->Option (Ex×PS)} {e:Ending} (h:iR P f m dd y e z) (hc:Chg (·=P) w y) (hm:m<=m') (hf:∀o,Out f o->Out g o):iR P g m' dd w e z:=by
 obtain⟨p,b,rfl,d,a⟩:=h;refine⟨hc.then p,b,rfl,ay hc.size d,?_⟩;rcases a with⟨x,q,i,n,hd,c,k⟩|⟨i,l,j⟩
 ·exact .inl ⟨x,q,hf _ i,ay n hm,hd,c.lower hc.size,k⟩
 ·exact .inr ⟨hf _ i,l,j⟩
theorem AN (N:Nat) (hNm:N<=1000000) (hE:fH N) (w:World) (P:Nat) (s:PS) (h:PG w P s) (hN:s.ts.length<=N):
  Calls prog 214 #[pB P] w (iR P (λn=>dG n s) (s.ts.length-1) s.d w):=by
 have h1:=(ai w.heap.size w).alloc (ag _) (.cells #[pB P] 51);obtain⟨n,hh⟩:=h.head;obtain⟨t,ar⟩:∃t,(hd s).text=t:=⟨_,rfl⟩;obtain⟨k,an⟩:∃k,(hd s).kind=k:=⟨_,rfl⟩;rw[ar,an]at hh;have HH:=aa (hh.on h1);have ad:=aa ar;have X:=aa an;have H1:=aa h1;generalize aW:w.alloc (.cells #[pB P] 51)=w1 at HH H1;have HX:=aa (show One w1 w.heap.size (pB P) 51 by rw[<- aW];exact af _ _);have x0:=HX.c;have be:=h.lt;clear hh h1 ar an
 go_enter func214,ntmps214
 go_wp2_with fail;refine(cC w1 P _ _ k t n HH.out).mono ?_;rintro e u ⟨rfl,hu⟩;have HU:=aa (hu.alloc hu.size (.cells #[.int .i64 k,.string ⟨t.toArray⟩,.int .i64 n] 59));generalize hv:u.alloc (.cells #[.int .i64 k,.string ⟨t.toArray⟩,.int .i64 n] 59)=v at HU;have HV:=aa (show TV v u.heap.size k t n by rw[<- hv];exact af _ _);have T:¬u.heap.size=P:=λe=>by have:=h.lt;have:=H1.size;have:=hu.size;omega
 have D:¬w.heap.size=P:=λe=>by have:=h.lt;omega
 have bt:w.heap.size<u.heap.size:=by have:=ab HX.out;have:=hu.size;omega
 have al:=aa (HX.below HU.out);have HB:=aa (H1.trans (HU.mono H1.size));have a9:=aa (h.on HB.out);have bm:u.heap.size<v.heap.size:=ab HV.out;clear hu x0 aW;have x1:=al.c;cases hnew:isW ri s with
 | true =>
  have J:=aa hnew;clear hnew;go_wp2_with fail;refine(pD v P s a9.out ri J.out).mono ?_;rintro e y ⟨rfl,V,hg⟩;have HY:=aa ((Chg.of_below (S:=(·=P)) HB.out).then V);have HG:=aa hg;have Q:=aa (al.chg V D);have O:=aa (HV.chg V T);have bc:(aS s).ts.length<=s.ts.length:=by unfold aS;split<;>simp
  have bn:=V.size;clear V hg x1 hv;have x2:=Q.c;obtain⟨c0,c1,c2⟩:=O.c;have Z:w.heap.size<y.heap.size:=by omega
  have bj:u.heap.size<y.heap.size:=by omega
  go_wp2_with fail
  go_region_with (go_at_call 215;refine(nk N hE y P _ k t n cD bR (aS s) HG.out (by omega) O.out T).mono ?_;rintro e z ⟨b,rfl,g2,gb,hr⟩)
  all_goals
   go_wp2_with fail;go_ret;refine(hr.out.new n).from HY.out (by omega) λo G=>G.up rfl λm=>by show dG (m+1) s=_;rw[dG,ax J.out]
 | false =>
  have J:=aa hnew;clear hnew;go_wp2_with fail;refine(su v P s a9.out ri J.out).mono ?_;rintro e y ⟨rfl,V⟩;have a4:=aa (HB.trans (V.mono HB.size));have Q:=aa (al.below V);have O:=aa (HV.below V);have ac:=aa (a9.on V);clear V x1 hv;have x2:=Q.c;cases hin:isW wIn s with
  | true =>
   have L:=aa hin;clear hin;go_wp2_with fail;refine(pD y P s ac.out wIn L.out).mono ?_;rintro e z ⟨rfl,W,hg⟩;have HZ:=aa ((Chg.of_below (S:=(·=P)) a4.out).then W);have HG:=aa hg;have E:=aa (Q.chg W D);have aj:=aa (O.chg W T);have bc:(aS s).ts.length<=s.ts.length:=by unfold aS;split<;>simp
   clear W hg x2;have x3:=E.c;have b0:=aa (vd (A:=Unit) (·=P) P z cD (aS s) HG.out rfl 247 #[pB w.heap.size] inK (λ_ _=>True) (λ_=>True)
    (λu q hq B hl=>vk u P w.heap.size q hq (E.chg B D))
    (λu hq B=>xE u P w.heap.size hq (E.chg B D))
    (λu=>by kernel_rfl) (λ_ _ _ _=>trivial) (λ_ _ _=>trivial))
   go_wp2_with fail;refine b0.mono ?_;rintro e q ⟨rfl,B,c⟩;have HC:=aa (HZ.then B);have b5:=aa (aj.chg B T);have f:=aa c;clear B c x3;obtain⟨c0,c1,c2⟩:=b5.c;go_wp2_with fail;go_ret;have aM:Below q.heap.size q (q.alloc (exC 8 0 [] [] (.pointer none) (.pointer none) (.slice none 0 0) n)):=az;have hF:∀m,dG (m+1) s=(inW cD (aS s) λs1=>inK s1 m).bind λr=>some (.inp,r.2):=λm=>by
    rw[dG,ap (by rw[J.out];decide),ax L.out];rfl
   refine⟨HC.alloc _,_,rfl,HC.size,?_⟩;rcases f.out with⟨a,s2,G,hl,hd,_,H⟩|⟨G,_,a0⟩
   ·refine .inl ⟨.inp,s2,(Out.fst (β:=Ex×PS) (g:=λr=>some (Ex.inp,r.2)) G rfl).up rfl hF,by omega,hd,?_,H.on aM⟩
    rw[bK];exact⟨HC.size,n,af _ _⟩
   ·exact .inr ⟨(Out.none1 (β:=Ex×PS) (g:=λ_ r=>some (Ex.inp,r.2)) G).up rfl hF,⟨_,_,[],[],_,_,_,_,af _ _⟩,a0.on aM⟩
  | false =>
   have L:=aa hin;clear hin;go_wp2_with fail;refine(su y P s ac.out wIn L.out).mono ?_;rintro e z ⟨rfl,W⟩;have K:=aa (a4.trans (W.mono a4.size));have E:=aa (Q.below W);have aj:=aa (O.below W);have b4:=aa (ac.on W);clear W x2;have x3:=E.c;go_wp2_with fail;refine(vP N hE z P s b4.out hN).mono ?_;rintro e r ⟨B,b,rfl,b8,c⟩;have hF:Hid (∀m,dG (m+1) s=(dN m s).bind (lO s m)):=λm=>by
    unfold lO G5;rw[dG,ap (by rw[J.out];decide),ap (by rw[L.out];decide)];rfl
   have HC:=aa ((Chg.of_below (S:=(·=P)) K.out).then B);have aL:=aa (E.chg B D);have aJ:=aa (aj.chg B T);have I:=aa (ay K.size b8);have x4:=aL.c;have br:=aH x4;have bo:=ab aJ.out;obtain⟨c0,c1,c2⟩:=aJ.c;clear B x3
   by_cases hk1:k=1
   ·subst hk1
    rcases c with⟨x,s2,G,hl,hd,R,H⟩|⟨G,hj,a0⟩
    ·have hx:=(vN X.out G)
     simp only[aq,aQ]at hx;obtain⟨rfl,bb⟩:=hx;rw[ad.out]at R;rw[bK]at R;obtain⟨aP,ln,C⟩:=R;have a6:=aa C;have aF:=aa H;have HO:=aa G;have au:=aa (show z.heap.size<=b from aP);have j0:r.cell? ⟨b,0,none⟩=some (.int .i64 2):=(ae C 0).trans rfl;have aO:=ab C;obtain⟨n2,aT⟩:=H.head;have aZ:=aa aT;obtain⟨op,aU⟩:∃op,isW cD s2=op:=⟨_,rfl⟩;have a8:=aa aU;have bh:s2.ts.length<=1000000:=by omega
     have aR:=hd;have b9:=hl;clear C H G aT bb aU hd hl aP;go_wp2_with fail;refine(jS _ P _ _ _ n2 (aZ.on (((ai r.heap.size r).alloc (ag _) _).alloc (by simp) _)) (r.heap.size+1) 1 [cD] (by have:=af (r.alloc (.cells #[pB b] 261)) (.cells #[.string ⟨#[40]⟩] 9);rw[ah]at this;exact this) (by simp) 1 rfl op ((pd _ s2).trans a8.out)).mono ?_;rintro e q ⟨rfl,hq⟩;have aN:Below r.heap.size r (r.alloc (.cells #[pB b] 261)):=az;have Z:Below (r.alloc (.cells #[pB b] 261)).heap.size (r.alloc (.cells #[pB b] 261)) q:=((ai _ _).alloc (ag _) (.cells #[.string ⟨#[40]⟩] 9)).trans (hq.mono (by simp));have HQ:=aa (aN.trans (Z.mono (by simp)));have ak:=aa (One.below (show One (r.alloc (.cells #[pB b] 261)) r.heap.size (pB b) 261 from af _ _) Z);have aI:=aa (aL.below HQ.out);have M:=aa (show q.heap[b]?=some (exC 2 0 t [] (.pointer none) (.pointer none) (.slice none 0 0) ln) by rw[HQ.block _ aO];exact a6.out);have x5:=ak.c;clear hq aN Z x4 j0 c0 c1 c2;cases op with
     | false =>
      go_wp2_with fail;go_ret;refine⟨HC.on HQ.out,b,rfl,I.out,.inl ⟨.name (hd s).text,s2,xB hF.out HO.out a8.out,b9,aR,?_,aF.on HQ.out⟩⟩;rw[ad.out,bK];exact⟨I.out,ln,M.out⟩
     | true =>
      have y0:q.cell? ⟨b,0,none⟩=some (.int .i64 2):=(ae M.out 0).trans rfl;have g0:q.frozen? ⟨b,0,none⟩=false:=aD q b 0 _ _ M.out;have am:P<b:=by have:=K.size;have:=au.out;omega
      have bp:w.heap.size<b:=by have:=K.size;have:=au.out;have:=ab E.out;omega
      have y1:(q.setCell ⟨b,0,none⟩ (.int .i64 4)).cell? ⟨w.heap.size,0,none⟩=some (pB P):=(aI.setOther (p:=⟨b,0,none⟩) (by show b≠w.heap.size;omega) _).c;have aG:=aa ((aF.on HQ.out).setOther M.out (by decide) am 0 (.int .i64 4));have bd:(q.setCell ⟨b,0,none⟩ (.int .i64 4)).heap.size=q.heap.size:=by simp[World.setCell]
      have bl:r.heap.size<q.heap.size:=ab ak.out;have bf:b<r.heap.size:=aO;have aK:=aa (ak.setOther (p:=⟨b,0,none⟩) (by show b≠r.heap.size;omega) (.int .i64 4));have a3:=aa (aI.setOther (p:=⟨b,0,none⟩) (by show b≠w.heap.size;omega) (.int .i64 4));have aE:=aa (show(q.setCell ⟨b,0,none⟩ (.int .i64 4)).heap[b]?=some (exC 4 0 t [] (.pointer none) (.pointer none) (.slice none 0 0) ln) from aA (j:=0) M.out _);have a5:=aa ((HC.on HQ.out).setCell (p:=⟨b,0,none⟩) (λe=>by have e:b<w.heap.size:=e;omega) (.int .i64 4));generalize ba:q.setCell ⟨b,0,none⟩ (.int .i64 4)=q3 at y1 aG bd aK a3 aE a5;have HS:=aa (show∀k:Nat,(k=P\/k=b\/q3.heap.size+2<=k)->k=P\/w.heap.size<=k fromλk hk=>by have:=a5.size;omega);have b1:=aa (rS F9 (λk=>k=P\/k=b\/q3.heap.size+2<=k) P q3 s2 [] (λv l=>vZ r.heap.size b (q3.heap.size+2) t v l) (Gl r.heap.size b (q3.heap.size+2) t) 248 #[pB r.heap.size,pB w.heap.size]
       aG.out ⟨.slice none 0 0,[],⟨aK.out,⟨ln,aE.out⟩,bq _ _ _ _⟩,by rw[dn];trivial,rfl⟩ (.inl rfl) (by omega) (by omega) (λu a ⟨av,bs,h,_⟩=>⟨av,bs,h⟩)
       (λv a s1 h1 h2 h3 h4 h5 h6=>vj N hE v P r.heap.size b w.heap.size (q3.heap.size+2) t a s1 h1 (by omega) h2 (a3.chg h3 (by omega)) (by have h6:a.length+_<=0+_:=h6;omega) (by omega) (by omega) (by omega) (by omega) (by omega) (by omega) (by omega) am h4)
       (λv a h1 h2 h3 h4 h5=>xD v P r.heap.size b w.heap.size (q3.heap.size+2) t a h1 h2 (a3.chg h3 (by omega)) (by have h5:a.length<=0+_:=h5;omega) (by omega) (by omega) (by omega) (by omega) (by omega) (by omega) (by omega) am h4)
       (λu=>by kernel_rfl)
       (λv v' a h B=>h.chg B (by omega) (by omega) (by omega))
       (λv v' ⟨av,bs,h⟩ B=>⟨av,bs,h.chg B (by omega) (by omega) (by omega)⟩))
      go_wp2_with fail;refine b1.mono ?_;rintro e u ⟨rfl,B,c⟩;have aw:=aa (show Chg (·=P) w u from a5.trans B λi hi q=>by rcases HS.out i q with q|q<;>omega)
      have aC:=aa (AO hF.out X.out HO.out a8.out);have bi:=HC.size;clear B y0 g0 y1 ba x5;rcases c with⟨l,s3,U,bg,b7,⟨av,bs,F,aX,bk⟩,a2⟩|⟨U,⟨av,bs,F⟩,a1⟩
      ·have x6:=F.box.c
       have f:=aa F;have b6:=aa aX;have a7:=aa U;have b3:=aa a2;clear F aX U a2;go_wp2_with fail;go_ret;refine⟨aw.out,b,rfl,I.out,.inl ⟨.call (hd s).text l,s3,aC.out.1 l s3 a7.out,by omega,b7.trans aR,?_,b3.out⟩⟩;rw[ad.out,bK];obtain⟨aY,ao⟩:=f.node;refine⟨I.out,aY,av,bs,ao,⟨kD f.own (aV _),λg hg=>?_⟩,b6.weak λk _ hk=>?_⟩
       ·have:=cG f.own g hg;show w.heap.size<=g;omega
       ·have:=hk.1;show w.heap.size<=k;omega
      ·have x6:=F.box.c
       have f:=aa F;have a7:=aa U;have b2:=aa a1;clear F U a1;go_wp2_with fail;go_ret;obtain⟨aY,ao⟩:=f.node;exact⟨aw.out,b,rfl,I.out,.inr ⟨aC.out.2 a7.out,⟨_,_,_,[],_,_,_,_,ao⟩,b2.out⟩⟩
    ·exact absurd (vN X.out G) (by simp)
   ·have hq:(k==1)=false:=by simpa using hk1
    have aB:Hid (∀m,dG (m+1) s=dN m s):=λm=>by
     rw[hF.out];cases dN m s with
     | none=>rfl
     | some r=>exact ap λ⟨q,_⟩=>hk1 (X.symm.trans q)
    have f:=aa c;clear hk1 c;go_wp2_with fail;go_ret;have Y:Below r.heap.size r (r.alloc (.cells #[pB b] 261)):=az;refine⟨HC.alloc _,b,rfl,I.out,?_⟩;rcases f.out with⟨x,s2,G,hl,hd,R,H⟩|⟨G,hj,a0⟩
    ·exact .inl ⟨x,s2,G.up rfl aB.out,hl,hd,(R.lower K.size).on (bA.below Y _),H.on Y⟩
    ·exact .inr ⟨G.up rfl aB.out,hj.on Y,a0.on Y⟩
theorem C5 (a b:Tx) (s:PS):KO [a,b] (hd s).kind (hd s).text=(isW a s||isW b s):=by
 unfold KO isW;simp[List.contains_cons,Bool.beq_eq_decide_eq,Bool.and_or_distrib_left]
theorem zk {wd:Tx} (h:isW wd s=true):(hd s).text=wd:=by
 unfold isW at h;simp only[bH,MA,bw]at h;exact h.2
theorem Out.step {α β:Type} {f:Nat->Option α} {g:Nat->α->Option β} {k:Nat->Option β} {r:α} (hm:ld f) (hgm:ld λn=>g n r) (h0:k 0=none) (hs:∀n,k (n+1)=(f n).bind (g n)) (hf:Out f (some r)) (o:Option β) (h:Out (λn=>g n r) o):Out k o:=by
 refine Out.up ?_ h0 hs;cases o with
 | none=>exact Out.none2 hm hf h
 | some q=>exact Out.some2 hm hf hgm h
theorem Out.stepN {α β:Type} {f:Nat->Option α} {g:Nat->α->Option β} {k:Nat->Option β} (h0:k 0=none) (hs:∀n,k (n+1)=(f n).bind (g n)) (hf:Out f none):Out k none:=Out.up (Out.none1 hf) h0 hs
def JN (P:Nat) (w:World) (s:PS) (b:Nat) (wr:World):Prop:=
 Chg (·=P) w wr/\w.heap.size<=b/\((∃x s1,PG wr P s1/\bK wr (Ge w.heap.size) b x/\s1.ts.length<=s.ts.length-1/\s1.d=s.d/\∀o,Out (λn=>gT n x s1) o->Out (λn=>fU n s) o)\/(PB wr P/\zG wr b/\Out (λn=>fU n s) none))
theorem x8 (N:Nat) (hE:fH N) (y:World) (P T:Nat) (k:Int) (t:Tx) (n:Int) (s:PS) (h:PG y P s) (hN:s.ts.length<=N) (hv:TV y T k t n) (hne:¬T=P):
  Calls prog 216 #[pB P] y.drew λe z=>∃b,e=.returned (pB b)/\z.cell? ⟨T,2,none⟩=some (.int .i64 n)/\b<z.heap.size/\Hid (iR P (λn=>dN n s) (s.ts.length-1) s.d y (.returned (pB b)) z):=by
 refine(vP N hE y.drew P s (h.on (ai _ _).drew) hN).mono ?_;rintro e z ⟨i,b,rfl,g,a⟩;have c:Chg (·=P) y z:=(Chg.of_below (ai _ _).drew).then i;refine⟨b,rfl,(hv.chg c hne).c.2.2,?_,⟨c,b,rfl,g,a⟩⟩;rcases a with⟨x,q,l,p,hd,f,o⟩|⟨l,j,m⟩
 ·exact f.junk.lt
 ·exact j.lt
theorem Cr {a:Nat} (h:Ending.returned (pB a)=.returned (pB b)):a=b:=by
 simp only[Ending.returned.injEq,Value.pointer.injEq,aq,Addr.mk.injEq,A9]at h;exact h
theorem JN.round (mk:Ex->Ex) (o:Obj)
 (hc:Chg (·=P) w y) (hx:bK y (Ge w.heap.size) b x) (hd:s1'.d=s.d) (hl:s1'.ts.length<=s.ts.length-1) (hf:ld f)
 (hs:∀n,gT (n+1) x s1=(f n).bind λr=>gT n (mk r.1) r.2) (hout:∀o,Out (λn=>gT n x s1) o->Out (λn=>fU n s) o)
 (hmk:∀x2 z',bK z' (Ge w.heap.size) b x->bK z' (Ge w.heap.size) b2 x2->z'.heap[z.heap.size]?=some o->bK z' (Ge w.heap.size) z.heap.size (mk x2)) (hj:∃k n nm t l r a ln,o=exC k n nm t l r a ln) (ho:(z.alloc o).heap[z.heap.size]?=some o)
 (hb0:b<y.heap.size) (hPw:P<w.heap.size) (h:iR P f (s1'.ts.length-1) s1'.d y (.returned (pB b2)) z):JN P w s z.heap.size (z.alloc o)/\muP P (z.alloc o)<=s1'.ts.length-1+1:=by
 obtain⟨m,E,B,D,c⟩:=h;have p:=Cr B;subst p;have g:Below z.heap.size z (z.alloc o):=az;rcases c with⟨x2,A,v,C,q,u,j⟩|⟨hn,_,i⟩
 ·refine⟨⟨(hc.then m).alloc _,(hc.then m).size,.inl ⟨mk x2,A,j.on g,?_,by omega,q.trans hd,λo ho'=>hout o (Out.step hf (rQ (mk x2) A) rfl hs v o ho')⟩⟩,by rw[(j.on g).mu];omega⟩
  exact hmk x2 _ ((hx.on (m.same λk hk e=>by omega)).on (bA.below g _)) ((u.lower hc.size).on (bA.below g _)) ho
 ·obtain⟨k,n,nm,t,l,r,a,ln,rfl⟩:=hj
  exact⟨⟨(hc.then m).alloc _,(hc.then m).size,.inr ⟨i.on g,⟨k,n,nm,t,l,r,a,ln,ho⟩,hout none (Out.stepN rfl hs hn)⟩⟩,by rw[(i.on g).mu];omega⟩
theorem ux (N:Nat) (hNm:N<=1000000) (hE:fH N):vV N:=by
 intro w P s h hN;have HF:=aa (AN N hNm hE w P s h hN);have Y:=h.lt;clear h
 go_enter func171,ntmps171
 go_wp2_with fail;refine HF.mono ?_;rintro e r ⟨hc,b,rfl,A,c⟩;have V:=aa (show JN P w s b r from⟨hc,A,by
  rcases c with⟨x,d,ho,hl,hd,a3,j⟩|⟨ho,hj,C⟩
  ·exact .inl ⟨x,d,j,a3,hl,hd,λo ho'=>Out.step (Aw s) (rQ x d) rfl (λn=>by rw[fU]) ho o ho'⟩
  ·exact .inr ⟨C,hj,Out.stepN (g:=λn r=>gT n r.1 r.2) rfl (λn=>by rw[fU]) ho⟩⟩)
 clear hc A c HF;go_wp2_with fail
 go_loopw [3] (λf wr=>∃b,f=pB b/\Hid (JN P w s b wr)) (λ_ wr=>muP P wr)
 case atStart=>exact⟨b,rfl,V⟩
 case round =>
  clear V;obtain⟨b,rfl,D⟩:=hrel;obtain⟨hc,A,c⟩:=D.out;clear D;have HC:=aa hc;clear hc;rcases c with⟨x,d,j,hx,hl,L,i⟩|⟨C,hj,i⟩
  ·obtain⟨n,hh⟩:=j.head
   obtain⟨t,Q⟩:∃t,(hd d).text=t:=⟨_,rfl⟩;obtain⟨k,M⟩:∃k,(hd d).kind=k:=⟨_,rfl⟩;rw[Q,M]at hh;have HH:=aa hh;have H:=aa Q;have a1:=aa M;have R:=aa j;have HX:=aa hx;have U:=aa i;have T:=aa j.mu;have a5:1<=d.ts.length:=bc.2 j.ne;obtain⟨q,hq⟩:∃q,(isW ss d||isW jo d)=q:=⟨_,rfl⟩;have HR:=aa hq;clear j hx i hh Q M hq;go_wp2_with fail;have B:Below wr.heap.size wr (wr.alloc (.cells #[.string ⟨#[91]⟩,.string ⟨#[58]⟩] 9)):=az;refine(jS _ P _ k t n (HH.on B) wr.heap.size 2 [ss,jo] (af _ _) (by simp) 2 rfl q (by rw[<- H.out,<- a1.out];exact(C5 _ _ d).trans HR.out)).mono ?_;rintro e y ⟨rfl,hy⟩;have K:=aa (B.trans (hy.mono B.size));clear hy B;cases q with
   | false =>
    go_wp2_with fail;go_ret;have a:=HR.out;simp only[Bool.or_eq_false_iff]at a;exact⟨HC.on K.out,b,rfl,A,.inl ⟨x,d,U.out _ ⟨1,by show gT (0+1) x d=_;rw[gT,ap (by rw[a.1];decide),ap (by rw[a.2];decide)]⟩,hl,L,HX.on (bA.below K.out _),R.on K.out⟩⟩
   | true =>
    go_wp2_with fail;refine(cC y P _ _ k t n (HH.on K.out)).mono ?_;rintro e u ⟨rfl,hu⟩;have HU:=aa (K.trans ((hu.alloc hu.size (.cells #[.int .i64 k,.string ⟨t.toArray⟩,.int .i64 n] 59)).mono K.size));generalize hv:u.alloc (.cells #[.int .i64 k,.string ⟨t.toArray⟩,.int .i64 n] 59)=v at HU;have HV:=aa (show TV v u.heap.size k t n by rw[<- hv];exact af _ _);have a7:=R.lt;have O:¬u.heap.size=P:=λe=>by have:=K.size;have:=hu.size;omega
    have F:=aa (R.on HU.out);have J:=aa (HX.on (bA.below HU.out _));have E:=aa (HC.on HU.out);have a2:=J.junk.lt;have a8:u.heap.size<v.heap.size:=ab HV.out;clear hu;obtain⟨c0,c1,c2⟩:=HV.c;cases a:isW ss d with
    | true =>
     have G:=aa a;have ht:t=ss:=H.symm.trans (zk a);subst ht;clear a;go_wp2_with fail;clear hv
     go_region_with (go_at_call 215;refine(nk N hE v P _ k _ n ss A4 d F.out (by omega) HV.out O).mono ?_;rintro e z ⟨X,rfl,g2,gb,D⟩)
     all_goals
      have p:=aa (JN.round (Ex.cell x) _ E.out J.out L hl (wY ss A4 d) (λm=>by rw[gT,ax G.out]) U.out
       (λx2 z' h1 h2 h3=>by rw[bK];exact⟨ay E.size D.out.1.size,n,b,X,h3,h1,h2⟩) ⟨_,_,[],[],_,_,_,_,rfl⟩ (af z (exC 5 0 [] [] (pB b) (pB X) (.slice none 0 0) n)) a2 Y D.out)
      go_simp;go_wp2_with fail
      go_roundw
      case rel=>exact⟨_,rfl,p.out.1⟩
      case measure=>rw[T.out];exact oU p.out.2 (by omega)
    | false =>
     have l:isW jo d=true:=by have:=HR.out;rw[a]at this;simpa using this
     have G:=aa a;have a0:=aa l;have ht:t=jo:=H.symm.trans (zk l);have a4:=d9 (F.long (tn l));subst ht;clear a l;go_wp2_with fail;refine(dZ v P d F.out).mono ?_;rintro e v2 ⟨rfl,hz,hg⟩;have I:=aa (HV.chg hz O);have HG:=aa hg;have S:=aa (E.then hz);have W:=aa (J.on (hz.same λk hk e=>by omega));have Z:=W.junk.lt;have a6:=ab I.out;clear hz hg hv c0 c1 c2;obtain⟨c0,c1,c2⟩:=I.c;go_wp2_with fail
     go_region_with (go_at_call 216;refine(x8 N hE v2 P _ k _ n (aS d) HG.out (by omega) I.out O).mono ?_;rintro e z ⟨X,rfl,g2,gb,D⟩)
     all_goals
      have p:=aa (JN.round (s1':=aS d) (Ex.link x) _ S.out W.out L (by omega) (qK (aS d)) (λm=>by rw[gT,ap (by rw[G.out];decide),ax a0.out]) U.out
       (λx2 z' h1 h2 h3=>by rw[bK];exact⟨ay S.size D.out.1.size,n,b,X,h3,h1,h2⟩) ⟨_,_,[],[],_,_,_,_,rfl⟩ (af z (exC 6 0 [] [] (pB b) (pB X) (.slice none 0 0) n)) Z Y D.out)
      go_simp;go_wp2_with fail
      go_roundw
      case rel=>exact⟨_,rfl,p.out.1⟩
      case measure=>rw[T.out];exact oU p.out.2 (by omega)
  ·have R:=aa C
   have HJ:=aa hj;have U:=aa i;clear C hj i;go_wp2_with fail;refine(o9 _ P (R.on ((ai wr.heap.size wr).alloc (ag _) _)) _).mono ?_;rintro e q ⟨rfl,hq⟩;have HQ:=aa (((ai wr.heap.size wr).alloc (ag _) _).trans (hq.mono (by simp)));clear hq;go_wp2_with fail;go_ret;exact⟨HC.on HQ.out,b,rfl,A,.inr ⟨U.out,HJ.on HQ.out,R.on HQ.out⟩⟩
theorem Ls.setOther (h:Ls XB X t u x) (h1:P≠XB) (h2:P≠X) (h3:P<XB+1) (v:Value):Ls XB X t (u.setCell ⟨P,1,none⟩ v) x:=by
 obtain⟨a,d,c,hn,b⟩:=h;exact⟨a.setOther (p:=⟨P,1,none⟩) h1 _,d,c,by rw[aM _ _ _ _ (iq h2)];exact hn,b.on (bA.setCell u (p:=⟨P,1,none⟩) h3 v)⟩
theorem JL.setOther (h:JL XB X t u) (h1:P≠XB) (h2:P≠X) (v:Value):JL XB X t (u.setCell ⟨P,1,none⟩ v):=by
 obtain⟨a,c,b,hn⟩:=h;exact⟨a.setOther (p:=⟨P,1,none⟩) h1 _,c,b,by rw[aM _ _ _ _ (iq h2)];exact hn⟩
def LM (s1:PS) (n:Nat):Option (Ex×PS):=gl n s1
theorem Ae (N:Nat) (hS:Ea N) (u:World) (P B XB X:Nat) (t:Tx) (ln:Int) (r0:Value) (s1:PS) (h:PG u P s1) (hN:s1.ts.length+1<=N) (hB:One u B (pB P) 51) (hXB:One u XB (pB X) 261) (hX:u.heap[X]?=some (exC 3 0 [] t (.pointer none) r0 (.slice none 0 0) ln)) (hBP:¬B=P) (hXBP:¬XB=P) (hXP:¬X=P) (hBX:¬B=X) (hXBX:¬XB=X) (hPX:P<X) (hXXB:X<XB):
  Calls prog 246 #[pB B,pB XB] u (pC (λk=>k=P\/k=X) P (LM s1) s1.ts.length s1.d (Ls XB X t) (JL XB X t) u):=by
 refine(uq (λb q=>iR P (λn=>gl n s1) (s1.ts.length-1) s1.d u (.returned (pB b)) q) u P B XB X t ln r0 hB hXB hX hBP hXBP hXP hBX hXBX ?_).mono ?_
 ·refine(hS u.drew P s1 (h.on (ai _ _).drew) hN).mono ?_
  rintro e q ⟨l,b,rfl,o,a⟩;have m:Chg (·=P) u q:=(Chg.of_below (ai _ _).drew).then l;exact⟨m,b,rfl,m,b,rfl,o,a⟩
 ·rintro e H ⟨b,q,rfl,l,⟨_,E,C,o,a⟩,rfl⟩
  have s:=Cr C;subst s;have f:X<u.heap.size:=ab hX;have A:XB<u.heap.size:=ab hXB;have c:q.heap[X]?=some (exC 3 0 [] t (.pointer none) r0 (.slice none 0 0) ln):=by rw[l.block _ f hXP];exact hX
  have r:(q.setCell ⟨X,5,none⟩ (pB b)).heap[X]?=some (exC 3 0 [] t (.pointer none) (pB b) (.slice none 0 0) ln):=aA (j:=5) c _;have g:One (q.setCell ⟨X,5,none⟩ (pB b)) XB (pB X) 261:=(hXB.chg l hXBP).setOther (p:=⟨X,5,none⟩) (iq hXBX) _;refine⟨rfl,Chg.setCell (S:=λk=>k=P\/k=X) (p:=⟨X,5,none⟩) (l.mono λi _ q=>Or.inl q) (λ_=>.inr rfl) _,?_⟩;rcases a with⟨x,D,w,G,hd,v,z⟩|⟨w,F,y⟩
  ·refine .inl ⟨x,D,w,by omega,hd,⟨g,b,ln,r,?_⟩,z.setOther c (by decide) hPX 5 _⟩
   exact(v.on (bA.setCell q (p:=⟨X,5,none⟩) (show X<u.heap.size from f) _)).lower (by omega)
  ·exact .inr ⟨w,⟨g,pB b,ln,r⟩,y.setOther c (by decide) (by decide) hPX 5 _⟩
theorem BT (u:World) (P B XB X:Nat) (t:Tx) (ln:Int) (r0:Value) (h:PB u P) (hB:One u B (pB P) 51) (hXB:One u XB (pB X) 261) (hX:u.heap[X]?=some (exC 3 0 [] t (.pointer none) r0 (.slice none 0 0) ln)) (hBP:¬B=P) (hXBP:¬XB=P) (hXP:¬X=P) (hBX:¬B=X) (hXBX:¬XB=X) (hPX:P<X):
  Calls prog 246 #[pB B,pB XB] u λe u'=>e=.returned (.tuple #[])/\Chg (λk=>k=P\/k=X) u u'/\JL XB X t u'/\PB u' P:=by
 refine(uq (λd q=>PB q P) u P B XB X t ln r0 hB hXB hX hBP hXBP hXP hBX hXBX ?_).mono ?_
 ·refine(yG u.drew P (h.on (ai _ _).drew)).mono ?_
  rintro e q ⟨b,d,rfl,f,g,a⟩;exact⟨(Chg.of_below (ai _ _).drew).then b,d,rfl,a⟩
 ·rintro e l ⟨d,q,rfl,b,a,rfl⟩
  have c:q.heap[X]?=some (exC 3 0 [] t (.pointer none) r0 (.slice none 0 0) ln):=by rw[b.block _ (ab hX) hXP];exact hX
  exact⟨rfl,Chg.setCell (S:=λk=>k=P\/k=X) (p:=⟨X,5,none⟩) (b.mono λi _ q=>Or.inl q) (λ_=>.inr rfl) _,⟨(hXB.chg b hXBP).setOther (p:=⟨X,5,none⟩) (iq hXBX) _,pB d,ln,aA (j:=5) c _⟩,a.setOther c (by decide) (by decide) hPX 5 _⟩
theorem BS (N:Nat) (hPo:vV N) (hS:Ea N) (w:World) (P:Nat) (s:PS) (h:PG w P s) (hN:s.ts.length<=N):
  Calls prog 212 #[pB P] w (iR P (λn=>gl n s) (s.ts.length-1) s.d w):=by
 have h1:=(ai w.heap.size w).alloc (ag _) (.cells #[pB P] 51);obtain⟨n,hh⟩:=h.head;obtain⟨t,I⟩:∃t,(hd s).text=t:=⟨_,rfl⟩;obtain⟨k,G⟩:∃k,(hd s).kind=k:=⟨_,rfl⟩;rw[I,G]at hh;have HH:=aa (hh.on h1);have M:=aa I;have a0:=aa G;have X:=aa h1;generalize W:w.alloc (.cells #[pB P] 51)=w1 at HH X;have HX:=aa (show One w1 w.heap.size (pB P) 51 by rw[<- W];exact af _ _);have x0:=HX.c;have a4:=h.lt;obtain⟨r,hr⟩:∃r,(isW rC s||isW g9 s)=r:=⟨_,rfl⟩;have HR:=aa hr;clear hh h1 I G hr
 go_enter func212,ntmps212
 go_wp2_with fail;refine(cC w1 P _ _ k t n HH.out).mono ?_;rintro e u ⟨rfl,V⟩;have Y:=aa (V.alloc V.size (.cells #[.int .i64 k,.string ⟨t.toArray⟩,.int .i64 n] 59));generalize hv:u.alloc (.cells #[.int .i64 k,.string ⟨t.toArray⟩,.int .i64 n] 59)=v at Y;have HV:=aa (show TV v u.heap.size k t n by rw[<- hv];exact af _ _);have a6:¬u.heap.size=P:=λe=>by have:=h.lt;have:=X.size;have:=V.size;omega
 have B:¬w.heap.size=P:=λe=>by have:=h.lt;omega
 have ae:w.heap.size<u.heap.size:=by have:=ab HX.out;have:=V.size;omega
 have O:=aa (HX.below Y.out);have HB:=aa (X.trans (Y.mono X.size));have a9:u.heap.size<v.heap.size:=ab HV.out;clear V x0 W;have x1:=O.c;go_wp2_with fail;have l:Below v.heap.size v (v.alloc (.cells #[.string ⟨#[33]⟩,.string ⟨#[45]⟩] 9)):=az;refine(jS _ P _ k t n ((HH.on Y.out).on l) v.heap.size 2 [rC,g9] (af _ _) (by simp) 2 rfl r (by rw[<- M.out,<- a0.out];exact(C5 _ _ s).trans HR.out)).mono ?_;rintro e y ⟨rfl,hy⟩;have Z:=aa (l.trans (hy.mono l.size));have c:=aa (HB.trans (Z.mono HB.size));have Q:=aa (O.below Z.out);have a2:=aa (HV.below Z.out);have L:=aa (h.on c.out);have ac:=Z.size;clear hy l x1 hv;have x2:=Q.c;cases r with
 | false =>
  have hF:Hid (∀m,gl (m+1) s=fU m s):=λm=>by
   have:=HR.out;simp only[Bool.or_eq_false_iff]at this;rw[gl,ap (by rw[this.1,this.2];simp)]
  go_wp2_with fail;refine(hPo y P s L.out hN).mono ?_;intro e z hz;have HZ:=aa hz;obtain⟨_,b,rfl,_⟩:=hz;go_wp2_with fail;go_ret;exact HZ.from (Chg.of_below c.out) (ag _) λo H=>H.up rfl hF.out
 | true =>
  obtain⟨c0,c1,c2⟩:=a2.c;have a5:w.heap.size<y.heap.size:=by omega
  have l:u.heap.size<y.heap.size:=by omega
  go_wp2_with fail;have f:Below y.heap.size y ((y.alloc (exC 3 0 [] t (.pointer none) (.pointer none) (.slice none 0 0) n)).alloc (.cells #[pB y.heap.size] 261)):=(az).alloc (by simp) _;have j:((y.alloc (exC 3 0 [] t (.pointer none) (.pointer none) (.slice none 0 0) n)).alloc (.cells #[pB y.heap.size] 261)).heap[y.heap.size]?=some (exC 3 0 [] t (.pointer none) (.pointer none) (.slice none 0 0) n):=by
   rw[aK _ _ _ (by simp)];exact af _ _
  have E:One ((y.alloc (exC 3 0 [] t (.pointer none) (.pointer none) (.slice none 0 0) n)).alloc (.cells #[pB y.heap.size] 261)) (y.heap.size+1) (pB y.heap.size) 261:=by
   have:=af (y.alloc (exC 3 0 [] t (.pointer none) (.pointer none) (.slice none 0 0) n)) (.cells #[pB y.heap.size] 261);rw[ah]at this;exact this
  generalize hg:(y.alloc (exC 3 0 [] t (.pointer none) (.pointer none) (.slice none 0 0) n)).alloc (.cells #[pB y.heap.size] 261)=g at f j E;have J:=Q.below f;have a1:=L.on f;have ad:=c.size;have K:=vd (A:=Ex) (λk=>k=P\/k=y.heap.size) P g t s a1 (.inl rfl) 246 #[pB w.heap.size,pB (y.heap.size+1)] LM (Ls (y.heap.size+1) y.heap.size t) (JL (y.heap.size+1) y.heap.size t)
   (λu q hq p hl=>Ae N hS u P w.heap.size (y.heap.size+1) y.heap.size t n (.pointer none) q hq (by omega) (J.chg p B) (E.chg p (by omega)) (by rw[p.block _ (ab j) (by omega)];exact j) (by omega) (by omega) (by omega) (by omega) (by omega) (by omega) (by omega))
   (λu hq p=>BT u P w.heap.size (y.heap.size+1) y.heap.size t n (.pointer none) hq (J.chg p B) (E.chg p (by omega)) (by rw[p.block _ (ab j) (by omega)];exact j) (by omega) (by omega) (by omega) (by omega) (by omega) (by omega))
   (λu=>by kernel_rfl)
   (λu a v h=>h.setOther (by omega) (by omega) (by omega) v)
   (λu v h=>h.setOther (by omega) (by omega) v)
  have hF:Hid (∀m,gl (m+1) s=(inW t s λs1=>LM s1 m).bind λr=>some (.un t r.1,r.2)):=λm=>by
   have:=HR.out;simp only[MA]at this;rw[gl,ax this,M.out];rfl
  refine K.mono ?_;rintro e q ⟨rfl,p,F⟩;have HC:=aa (((Chg.of_below (S:=(·=P)) c.out).then (Chg.of_below f)).trans p λi hi q=>by omega);have a8:=p.size;have a7:=f.size;clear p hg c0 c1 c2 K;rcases F with⟨x,s2,H,hl,hd,⟨R,rb,ln,hn,hx⟩,U⟩|⟨H,⟨R,rb,ln,hn⟩,T⟩
  ·have x3:=R.c
   have HO:=aa H;have C:=aa hn;have a3:=aa hx;have D:=aa U;clear H hn hx U R;go_wp2_with fail;go_ret;refine⟨HC.out,_,rfl,c.size,.inl ⟨.un t x,s2,(Out.fst (β:=Ex×PS) (g:=λr=>some (Ex.un t r.1,r.2)) HO.out rfl).up rfl hF.out,hl,hd,?_,D.out⟩⟩;rw[bK];exact⟨c.size,ln,rb,C.out,a3.lower (by have:=c.size;omega)⟩
  ·have x3:=R.c
   have HO:=aa H;have C:=aa hn;have D:=aa T;clear H hn T R;go_wp2_with fail;go_ret;exact⟨HC.out,_,rfl,c.size,.inr ⟨(Out.none1 (β:=Ex×PS) (g:=λ_ r=>some (Ex.un t r.1,r.2)) HO.out).up rfl hF.out,⟨_,_,[],_,_,_,_,_,C.out⟩,D.out⟩⟩
theorem xY (t:Tx):0<=binds t/\binds t<=6:=by
 unfold binds;cases h:iQ.find? (λr=>decide (r.1=t))with
 | none=>exact⟨by decide,by decide⟩
 | some r =>
  have a:=dR h;have:∀x∈iQ,0<=x.2/\x.2<=6:=by decide
  exact this r a
def Ed (L:Nat->Ex->PS->Option (Ex×PS)) (F:Nat->Option (Ex×PS)) (P:Nat) (w:World) (s:PS) (b:Nat) (wr:World):Prop:=
 Chg (·=P) w wr/\w.heap.size<=b/\((∃x s1,PG wr P s1/\bK wr (Ge w.heap.size) b x/\s1.ts.length<=s.ts.length-1/\s1.d=s.d/\∀o,Out (λn=>L n x s1) o->Out F o)\/(PB wr P/\zG wr b/\Out F none))
theorem Ed.round {L:Nat->Ex->PS->Option (Ex×PS)} {F:Nat->Option (Ex×PS)} (hL:∀x s,ld λn=>L n x s) (hL0:∀x s,L 0 x s=none) (mk:Ex->Ex) (o:Obj)
 (hc:Chg (·=P) w y) (hx:bK y (Ge w.heap.size) b x) (hd:s1'.d=s.d) (hl:s1'.ts.length<=s.ts.length-1) (hf:ld f)
 (hs:∀n,L (n+1) x s1=(f n).bind λr=>L n (mk r.1) r.2) (hout:∀o,Out (λn=>L n x s1) o->Out F o)
 (hmk:∀x2 z',bK z' (Ge w.heap.size) b x->bK z' (Ge w.heap.size) b2 x2->z'.heap[z.heap.size]?=some o->bK z' (Ge w.heap.size) z.heap.size (mk x2)) (hj:∃k n nm t l r a ln,o=exC k n nm t l r a ln) (ho:(z.alloc o).heap[z.heap.size]?=some o)
 (hPw:P<w.heap.size) (h:iR P f (s1'.ts.length-1) s1'.d y (.returned (pB b2)) z):Ed L F P w s z.heap.size (z.alloc o)/\muP P (z.alloc o)<=s1'.ts.length-1+1:=by
 obtain⟨m,E,B,D,c⟩:=h;have p:=Cr B;subst p;have g:Below z.heap.size z (z.alloc o):=az;rcases c with⟨x2,A,v,C,q,u,j⟩|⟨hn,_,i⟩
 ·refine⟨⟨(hc.then m).alloc _,(hc.then m).size,.inl ⟨mk x2,A,j.on g,?_,by omega,q.trans hd,λo ho'=>hout o (Out.step hf (hL (mk x2) A) (hL0 _ _) hs v o ho')⟩⟩,by rw[(j.on g).mu];omega⟩
  exact hmk x2 _ ((hx.on (m.same λk hk e=>by omega)).on (bA.below g _)) ((u.lower hc.size).on (bA.below g _)) ho
 ·obtain⟨k,n,nm,t,l,r,a,ln,rfl⟩:=hj
  exact⟨⟨(hc.then m).alloc _,(hc.then m).size,.inr ⟨i.on g,⟨k,n,nm,t,l,r,a,ln,ho⟩,hout none (Out.stepN (hL0 _ _) hs hn)⟩⟩,by rw[(i.on g).mu];omega⟩
theorem vt (N:Nat) (hE:fH N) (y:World) (P T:Nat) (k:Int) (t:Tx) (n c:Int) (s:PS) (h:PG y P s) (hN:s.ts.length+1<=N) (hv:TV y T k t n) (hne:¬T=P):
  Calls prog 169 #[pB P,.int .i64 c] y.drew λe z=>∃b,e=.returned (pB b)/\z.cell? ⟨T,1,none⟩=some (.string ⟨t.toArray⟩)/\z.cell? ⟨T,2,none⟩=some (.int .i64 n)/\b<z.heap.size/\Hid (iR P (λn=>cZ n c s) (s.ts.length-1) s.d y (.returned (pB b)) z):=by
 refine(hE y.drew P s c (h.on (ai _ _).drew) hN).mono ?_;rintro e z ⟨j,b,rfl,i,a⟩;have f:Chg (·=P) y z:=(Chg.of_below (ai _ _).drew).then j;refine⟨b,rfl,(hv.chg f hne).c.2.1,(hv.chg f hne).c.2.2,?_,⟨f,b,rfl,i,a⟩⟩;rcases a with⟨x,r,m,q,hd,g,p⟩|⟨m,l,o⟩
 ·exact g.junk.lt
 ·exact l.lt
theorem CP (h:(hd s).kind≠3\/binds (hd s).text=0\/binds (hd s).text<c):Out (λn=>ib n c x s) (some (x,s)):=⟨1,by show ib (0+1) c x s=_;rw[ib,ax h]⟩
theorem IZ (h:¬((hd s).kind≠3\/binds (hd s).text=0\/binds (hd s).text<c)) (n:Nat):ib (n+1) c x s=(cZ n (binds (hd s).text+1) (aS s)).bind λr=>ib n c (.bin (hd s).text x r.1) r.2:=by
 rw[ib,ap h]
theorem Dr (N:Nat) (hE:fH N) (hSg:∀w P s,PG w P s->s.ts.length<=N->Calls prog 212 #[pB P] w (iR P (λn=>gl n s) (s.ts.length-1) s.d w)) (w:World) (P:Nat) (s:PS) (c:Int) (h:PG w P s) (hN:s.ts.length<=N):
  Calls prog 169 #[pB P,.int .i64 c] w (iR P (λn=>cZ n c s) (s.ts.length-1) s.d w):=by
 have HS:=aa (hSg w P s h hN);have a5:=h.lt;clear h hSg
 go_enter func169,ntmps169
 go_wp2_with fail;refine HS.mono ?_;rintro e r ⟨hc,b,rfl,B,j⟩;have U:=aa (show Ed (λn=>ib n c) (λn=>cZ n c s) P w s b r from⟨hc,B,by
  rcases j with⟨x,q,ho,hl,hd,a8,l⟩|⟨ho,hj,C⟩
  ·exact .inl ⟨x,q,l,a8,hl,hd,λo ho'=>Out.step (CH s) (uN c x q) rfl (λn=>by rw[cZ]) ho o ho'⟩
  ·exact .inr ⟨C,hj,Out.stepN (g:=λn r=>ib n c r.1 r.2) rfl (λn=>by rw[cZ]) ho⟩⟩)
 clear hc B j HS;go_wp2_with fail
 go_loopw [5] (λf wr=>∃b,f=pB b/\Hid (Ed (λn=>ib n c) (λn=>cZ n c s) P w s b wr)) (λ_ wr=>muP P wr)
 case atStart=>exact⟨b,rfl,U⟩
 case round =>
  clear U;obtain⟨b,rfl,hr⟩:=hrel;obtain⟨hc,B,j⟩:=hr.out;clear hr;have HC:=aa hc;clear hc;rcases j with⟨x,q,l,hx,hl,a0,p⟩|⟨C,hj,p⟩
  ·obtain⟨n,O⟩:=l.head
   obtain⟨t,G⟩:∃t,(hd q).text=t:=⟨_,rfl⟩;obtain⟨k,Q⟩:∃k,(hd q).kind=k:=⟨_,rfl⟩;rw[G,Q]at O;have HH:=aa O;have V:=aa G;have J:=aa Q;have HP:=aa l;have HX:=aa hx;have HO:=aa p;have a4:=aa l.mu;have ag:1<=q.ts.length:=bc.2 l.ne;have ad:t.length<=4294967296:=by
    have:=(l.ok (hd q) (by have:=l.ne;unfold hd;cases hs:q.ts with|nil=>exact absurd hs this|cons a r=>simp)).1;rw[G]at this;exact this
   have D:=O.c2;clear l hx p O G Q;go_wp2_with fail;refine(fk wr P none D false rfl).mono ?_;rintro e z ⟨rfl,rfl⟩;go_wp2_with fail;refine(cC wr P _ _ k t n HH.out).mono ?_;rintro e u ⟨rfl,hu⟩;have HU:=aa (hu.alloc hu.size (.cells #[.int .i64 k,.string ⟨t.toArray⟩,.int .i64 n] 59));generalize hv:u.alloc (.cells #[.int .i64 k,.string ⟨t.toArray⟩,.int .i64 n] 59)=v at HU;have HV:=aa (show TV v u.heap.size k t n by rw[<- hv];exact af _ _);have ai:=HP.lt;have a1:¬u.heap.size=P:=λe=>by have:=hu.size;omega
   clear hu D;obtain⟨c0,c1,c2⟩:=HV.c;go_wp2_with fail;refine(vK v t ad).mono ?_;rintro e y ⟨rfl,hy⟩;have HB:=aa (HU.trans (hy.mono HU.size));have W:=aa (HV.below hy);have K:=aa (HP.on HB.out);have Y:=aa (HX.on (bA.below HB.out _));have S:=aa (HC.on HB.out);clear hy hv c0 c1 c2;obtain⟨c0,c1,c2⟩:=W.c;obtain⟨a6,a7⟩:=xY t;obtain⟨A,E⟩:∃A,binds t=A:=⟨_,rfl⟩;rw[E]at a6 a7;simp only[E];have I:=aa (show binds (hd q).text=A by rw[V.out];exact E);clear E;have i:Hid ((k≠3\/A=0\/A<c)->iR P (λn=>cZ n c s) (s.ts.length-1) s.d w (.returned (pB b)) y):=λhq =>
    ⟨S.out,b,rfl,B,.inl ⟨x,q,HO.out _ (CP (by rw[J.out,I.out];exact hq)),hl,a0,Y.out,K.out⟩⟩
   by_cases hk:k=3
   ·by_cases hz:A=0
    ·have Z:=aa (i.out (.inr (.inl hz)))
     subst hk;subst hz;clear i;go_wp2_with fail;go_ret;exact Z.out
    ·by_cases hlt:A<c
     ·have Z:=aa (i.out (.inr (.inr hlt)))
      subst hk;have ac:(A==0)=false:=by simpa using hz
      clear i;go_wp2_with fail;go_ret;exact Z.out
     ·have GO:=aa (λn=>IZ (c:=c) (x:=x) (s:=q) (by rw[J.out,I.out,hk];simp;omega) n)
      subst hk;have ac:(A==0)=false:=by simpa using hz
      have a9:=d9 (K.long (by rw[J.out];decide));clear i;go_wp2_with fail;refine(dZ y P q K.out).mono ?_;rintro e v2 ⟨rfl,H,hg⟩;have M:=aa (W.chg H a1);have HG:=aa hg;have R:=aa (S.then H);have X:=aa (Y.on (H.same λk hk e=>by omega));have ae:=X.junk.lt;have ah:=ab M.out;clear H hg c0 c1 c2;obtain⟨c0,c1,c2⟩:=M.c;go_wp2_with fail;have a2:IntKind.i64.wrap (A+1)=A+1:=lf _ (by omega);have a3:=aa (vt N hE v2 P _ _ t n (A+1) (aS q) HG.out (by omega) M.out a1)
      go_region_held3 (λw'=>w'.cell? ⟨u.heap.size,1,none⟩=some (.string ⟨t.toArray⟩)/\w'.cell? ⟨u.heap.size,2,none⟩=some (.int .i64 n))
       (first
        | (exact⟨c1,c2⟩)
        | (exact⟨g1,g2⟩)
        | (exact⟨kE g1,kE g2⟩)
        | go_keep)
       (first
        | (go_at_call 169;refine a3.mono ?_;rintro e z ⟨b2,rfl,g1,g2,gb,hr⟩))
      clear a2
      all_goals
       have T:=aa (Ed.round (L:=λn=>ib n c) (F:=λn=>cZ n c s) (λx s=>uN c x s) (λ_ _=>rfl) (s1':=aS q) (Ex.bin t x) _ R.out X.out a0 (by omega) (lJ (A+1) (aS q)) (λm=>by have:=GO.out m;rw[I.out,V.out]at this;exact this) HO.out
        (λx2 z' h1 h2 h3=>by rw[bK];exact⟨ay R.size hr.out.1.size,n,b,b2,h3,h1,h2⟩) ⟨_,_,[],t,_,_,_,_,rfl⟩ (af z (exC 3 0 [] t (pB b) (pB b2) (.slice none 0 0) n)) a5 hr.out)
       go_simp;go_wp2_with fail
       go_roundw
       case rel=>exact⟨_,rfl,T.out.1⟩
       case measure=>rw[a4.out];exact oU T.out.2 (by omega)
   ·have Z:=aa (i.out (.inl hk))
    have ak:(k==3)=false:=by simpa using hk
    clear i;go_wp2_with fail;go_ret;exact Z.out
  ·have HP:=aa C
   have HJ:=aa hj;have HO:=aa p;obtain⟨d,f,k,t,n,O,hf,aj⟩:=C.ex;have D:=O.c2;clear C hj p O;go_wp2_with fail;refine(fk wr P _ D true rfl).mono ?_;rintro e z ⟨rfl,rfl⟩;go_wp2_with fail;go_ret;exact⟨HC.out,b,rfl,B,.inr ⟨HO.out,HJ.out,HP.out⟩⟩
def PO (w:World) (P:Nat) (o:Option PS):Prop:=match o with|some s=>PG w P s|none=>PB w P
theorem PO.on {w':World} (h:PO w P o) (hb:Below w.heap.size w w'):PO w' P o:=by
 cases o with
 | some s=>exact PG.on h hb
 | none=>exact PB.on h hb
theorem PO.lt (h:PO w P o):P<w.heap.size:=by
 cases o with
 | some s=>exact PG.lt h
 | none=>exact PB.lt h
theorem PO.setOther (h:PO w P o) {cs:Array Value} {ty:TypeId} {fr:Nat×Nat} (hX:w.heap[X]?=some (.cells cs ty fr)) (h59:ty≠59) (h122:ty≠122) (hP:P<X) (j:Nat) (v:Value):PO (w.setCell ⟨X,j,none⟩ v) P o:=by
 cases o with
 | some s=>exact PG.setOther h hX h59 hP j v
 | none=>exact PB.setOther h hX h59 h122 hP j v
theorem PO.free (h:PO w P o) (j:Nat):w.frozen? ⟨P,j,none⟩=false:=by
 cases o with
 | some s=>exact PG.free h j
 | none=>exact PB.free h j
theorem PO.c2 (h:PO w P o):∃a,w.cell? ⟨P,2,none⟩=some (.pointer a)/\a.isSome=o.isNone:=by
 cases o with
 | some s=>obtain⟨n,b⟩:=PG.head h;exact⟨none,b.c2,rfl⟩
 | none=>obtain⟨d,f,k,t,n,b,_⟩:=PB.ex h;exact⟨_,b.c2,rfl⟩
theorem PO.head (h:PO w P o):∃x y k t n,HeadAt w P x y k t n/\∀s,o=some s->k=(hd s).kind/\t=(hd s).text:=by
 cases o with
 | some s=>obtain⟨n,a⟩:=PG.head h;exact⟨_,_,_,_,n,a,λs' e=>by cases e;exact⟨rfl,rfl⟩⟩
 | none=>obtain⟨d,f,k,t,n,a,_⟩:=PB.ex h;exact⟨_,_,k,t,n,a,λs' e=>by cases e⟩
def isO (wd:Tx) (o:Option PS):Bool:=match o with|some s=>isW wd s|none=>false
def iO (wd:Tx) (o:Option PS):Option PS:=o.map λs=>(cF wd s).2
def nmO (o:Option PS):Tx:=match o.bind cR with|some r=>r.1|none=>[]
theorem jC (w:World) (P:Nat) (o:Option PS) (h:PO w P o):Calls prog 15 #[pB P] w λe w'=>e=.returned (.bool o.isNone)/\w=w':=by
 obtain⟨a,b,c⟩:=h.c2;exact fk w P a b _ c
theorem uL (w:World) (P:Nat) (o:Option PS) (h:PO w P o) (wd:Tx):
  Calls prog 59 #[pB P,.string ⟨wd.toArray⟩] w λe w'=>e=.returned (.tuple #[])/\Chg (·=P) w w'/\PO w' P (o.bind (bP wd)):=by
 cases o with
 | none=>exact(iJ w P h wd).mono λe w' ⟨h1,h2⟩=>⟨h1,.of_below h2,PB.on h h2⟩
 | some s =>
  cases hw:isW wd s with
  | true=>exact(kG w P s h wd hw).mono λe w' ⟨h1,h2,h3⟩=>⟨h1,h2,by rw[aj,bP,ax hw];exact h3⟩
  | false=>exact(qI w P s h wd hw).mono λe w' ⟨h1,h2,h3⟩=>⟨h1,h2,by rw[aj,bP,ap (by rw[hw];decide)];exact h3⟩
theorem p9 (w:World) (P:Nat) (o:Option PS) (h:PO w P o) (wd:Tx):
  Calls prog 63 #[pB P,.string ⟨wd.toArray⟩] w λe w'=>e=.returned (.bool (isO wd o))/\Chg (·=P) w w'/\PO w' P (iO wd o):=by
 cases o with
 | none=>exact(pF w P h wd).mono λe w' ⟨h1,h2⟩=>⟨h1,.of_below h2,PB.on h h2⟩
 | some s =>
  cases hw:isW wd s with
  | true=>exact(pD w P s h wd hw).mono λe w' ⟨h1,h2,h3⟩=>⟨by rw[h1];show _=Ending.returned (.bool (isW wd s));rw[hw],h2,by show PG w' P (cF wd s).2;rw[cF,ax hw];exact h3⟩
  | false=>exact(su w P s h wd hw).mono λe w' ⟨h1,h2⟩=>⟨by rw[h1];show _=Ending.returned (.bool (isW wd s));rw[hw],.of_below h2,by show PG w' P (cF wd s).2;rw[cF,ap (by rw[hw];decide)];exact PG.on h h2⟩
theorem Mg (w:World) (P:Nat) (o:Option PS) (h:PO w P o) (wd:Tx) (b c:Nat) (hb:w.heap[b]?=some (.cells #[.string ⟨wd.toArray⟩] 9 (0,0))):
  Calls prog 113 #[pB P,.slice (some ⟨b,0,none⟩) 1 c] w λe w'=>e=.returned (.bool (isO wd o))/\Below w.heap.size w w':=by
 cases o with
 | none=>exact o9 w P h _
 | some s =>
  obtain⟨n,a⟩:=PG.head h;exact jS w P _ _ _ n a b c [wd] hb (by simp) 1 rfl _ (pd wd s)
theorem CD (w:World) (P:Nat) (o:Option PS) (h:PO w P o):
  Calls prog 60 #[pB P] w λe w'=>e=.returned (.string ⟨(nmO o).toArray⟩)/\Chg (·=P) w w'/\PO w' P ((o.bind cR).map (·.2)):=by
 cases o with
 | none=>exact(yU w P h).mono λe w' ⟨h1,h2⟩=>⟨h1,.of_below h2,PB.on h h2⟩
 | some s =>
  by_cases hk:(hd s).kind=1
  ·exact(yT w P s h hk).mono λe w' ⟨h1,h2,h3⟩=>⟨by rw[h1];unfold nmO;rw[aj,cR,ax hk],h2,by rw[aj,cR,ax hk];exact h3⟩
  ·exact(CE w P s h hk).mono λe w' ⟨h1,h2,h3⟩=>⟨by rw[h1];unfold nmO;rw[aj,cR,ap hk],h2,by rw[aj,cR,ap hk];exact h3⟩
structure Rd {α:Type} (f:Nat->PS->Option (α×PS)) (o:Option PS) (P:Nat) (w:World) (q:Option (α×PS)) (w':World):Prop where
 chg:Chg (·=P) w w'
 out:Out (λn=>o.bind (f n)) q
 st:PO w' P (q.map (·.2))
 len:∀x s',q=some (x,s')->∃s,o=some s/\s'.ts.length+1<=s.ts.length/\s'.d=s.d
def exF (c:Int) (n:Nat) (s:PS):Option (Ex×PS):=cZ n c s
theorem Dt (N:Nat) (hE:fH N) (w:World) (P:Nat) (o:Option PS) (c:Int) (h:PO w P o) (hN:∀s,o=some s->s.ts.length+1<=N):
  Calls prog 169 #[pB P,.int .i64 c] w λe w'=>∃b q,e=.returned (pB b)/\w.heap.size<=b/\b<w'.heap.size/\Rd (exF c) o P w q w'/\∀x s',q=some (x,s')->bK w' (Ge w.heap.size) b x:=by
 cases o with
 | none =>
  refine(tB w P h c).mono ?_;rintro e w' ⟨i,b,rfl,a,j,f⟩;exact⟨b,none,rfl,a,j.lt,⟨i,λn=>rfl,f,λx s' e=>by cases e⟩,λx s' e=>by cases e⟩
 | some s =>
  refine(hE w P s c h (hN s rfl)).mono ?_;rintro e w' ⟨i,b,rfl,a,d⟩;have m:1<=s.ts.length:=bc.2 (PG.ne h);rcases d with⟨x,p,k,r,hd,g,l⟩|⟨k,j,f⟩
  ·exact⟨b,some (x,p),rfl,a,g.junk.lt,⟨i,k,l,λx s' e=>by cases e;exact⟨s,rfl,by omega,hd⟩⟩,λx s' e=>by cases e;exact g⟩
  ·exact⟨b,none,rfl,a,j.lt,⟨i,k,f,λx s' e=>by cases e⟩,λx s' e=>by cases e⟩
theorem Out.bindO {α β:Type} {f:Nat->Option α} {g:Nat->α->Option β} (hm:ld f) (hgm:∀r,ld λn=>g n r) {q:Option α} (h:Out f q) {q2:Option β} (h2:Out (λn=>q.bind (g n)) q2):Out (λn=>(f n).bind (g n)) q2:=by
 cases q with
 | none =>
  cases q2 with
  | none=>exact Out.none1 h
  | some r=>obtain⟨n,hn⟩:=h2;cases hn
 | some r =>
  cases q2 with
  | none=>exact Out.none2 hm h h2
  | some r2=>exact Out.some2 hm h (hgm r) h2
theorem Out.const {α:Type} (o:Option α):Out (λ_=>o) o:=by
 cases o with
 | none=>exactλ_=>rfl
 | some r=>exact⟨0,rfl⟩
theorem ci.mem {A:Nat->Prop} {x:Sm} (h:ci w A b x):A b:=by
 cases x with
 | var n p r=>cases r<;>(rw[ci]at h;exact h.1)
 | ret r=>cases r<;>(rw[ci]at h;exact h.1)
 | _=>rw[ci]at h;exact h.1
def Ei (N:Nat):Prop:=∀w P o,PO w P o->(∀s,o=some s->s.ts.length<=N) ->
 Calls prog 64 #[pB P] w λe w'=>∃sa sn sc q,e=.returned (.slice sa sn sc)/\Rd dc o P w q w'/\∀l s',q=some (l,s')->jU w' (Ge w.heap.size) (.slice sa sn sc) l
def Ly (N:Nat):Prop:=∀w P s ln,PG w P s->s.ts.length<=N ->
 Calls prog 170 #[pB P,.int .i64 ln] w λe w'=>∃b q,e=.returned (pB b)/\w.heap.size<=b/\b<w'.heap.size/\Rd dz (some s) P w q w'/\∀x s',q=some (x,s')->ci w' (Ge w.heap.size) b x
def Lq (N:Nat):Prop:=∀w P s,PG w P s->s.ts.length<=N ->
 Calls prog 115 #[pB P] w λe w'=>∃b q,e=.returned (pB b)/\w.heap.size<=b/\b<w'.heap.size/\Rd ek (some s) P w q w'/\∀x s',q=some (x,s')->ci w' (Ge w.heap.size) b x
theorem GG (S:Nat->Prop) (P:Nat) (w:World) (wd:Tx) (h:PB w P) (hS:S P) (fid:FuncId) (caps:Array Value) (Bd:World->Prop)
 (hbad:∀u,PB u P->Chg (·=P) w u->Calls prog fid caps u λe u'=>e=.returned (.tuple #[])/\Chg S u u'/\Bd u'/\PB u' P)
 (hcall:∀u,Sem.run prog (callFunc fid caps) u=.ok (.enter fid caps) u)
 (hB:∀u (v:Value),Bd u->Bd (u.setCell ⟨P,1,none⟩ v)):
  Calls prog 111 #[.pointer (some ⟨P,0,none⟩),.string ⟨wd.toArray⟩,.func (.func fid) #[] caps] w λe w'=>e=.returned (.tuple #[])/\Chg S w w'/\Bd w'/\PB w' P:=by
 have B:Below w.heap.size w (w.alloc (.cells (txs [wd]).toArray 9)):=az;have l:=aa hbad;have m:=aa hB;have o:=aa hcall;have j:=aa B;clear hbad hB hcall B
 go_enter func111,ntmps111
 go_wp2_with fail;refine(o9 _ P (h.on j.out) _).mono ?_;rintro e u ⟨rfl,C⟩;have x:=aa (j.trans (C.mono j.size));have b:=aa (h.on x.out);clear C;go_wp2_with fail;refine(iJ u P b.out wd).mono ?_;rintro e z ⟨rfl,t⟩;have F:=aa ((Chg.of_below (S:=(·=P)) x.out).on t);have r:=aa (b.on t);clear t;obtain⟨d,c1⟩:=r.c1;have A:=r.free 1;have k:=aa (r.set1 (wrap64 (d+1)));have c:=aa (F.setCell (p:=⟨P,1,none⟩) (λ_=>rfl) (.int .i64 (wrap64 (d+1))));have s:=o.out (z.setCell ⟨P,1,none⟩ (.int .i64 (wrap64 (d+1))));go_wp2_with fail;refine(l.out _ k.out c.out).mono ?_;rintro e y ⟨rfl,D,f,g⟩;have E:=aa ((c.mono (S':=S) λi _ q=>by subst q;exact hS).then D);have n:=aa f;have a:=aa g;clear D f g c1 A s;obtain⟨G,c1⟩:=a.c1;have A:=a.free 1;go_wp2_with fail;go_end0;exact⟨rfl,E.setCell (p:=⟨P,1,none⟩) (λ_=>hS) _,m.out _ _ n.out,a.set1 _⟩
end Go.Proofs.YtbeaaimcpkogcaaGreatDoor
