/- Lemmas on the way to the claim. -/
import Derived.Laws.EntriesVeiled
import Derived.Test.YtbeaaimcpkogcaaGreatDoorM36
set_option linter.unusedSimpArgs false
set_option linter.unusedVariables false
set_option maxHeartbeats 8000000
set_option maxRecDepth 100000
namespace Go.Proofs.YtbeaaimcpkogcaaGreatDoor
open Go.Proofs.Tryz Go.RowKit
variable {P S S1:List Tx} {w w':World} {B1 B2 j k left mf ms mu sz:Nat} {fs:List Fun} {bs:List Nat} {us:List (Tx×List Tx)} {g:Tx} {u:Tx×List Tx}
structure FunW (f:Fun):Prop where
 name:f.name.length<=4294967296
 pars:∀p∈f.params,p.name.length<=4294967296
 body:ye f.body
theorem jf {s:Tx} (h:fe s):s.length<=4294967296:=by have:=h.1;omega
mutual
theorem ik:∀{x:Ex},ExP x->ExW x
 | .num m,h=>by unfold ExP at h;unfold ExW;exact h
 | .name s,h=>by unfold ExP at h;unfold ExW;exact jf h
 | .un t r,h=>by unfold ExP at h;unfold ExW;exact⟨h.1,ik h.2⟩
 | .bin t l r,h=>by unfold ExP at h;unfold ExW;exact⟨h.1,ik h.2.1,ik h.2.2⟩
 | .call s args,h=>by unfold ExP at h;unfold ExW;exact⟨jf h.1,h.2.1,Dp h.2.2⟩
 | .cell l r,h=>by unfold ExP at h;unfold ExW;exact⟨ik h.1,ik h.2⟩
 | .link l r,h=>by unfold ExP at h;unfold ExW;exact⟨ik h.1,ik h.2⟩
 | .new l,h=>by unfold ExP at h;unfold ExW;exact ik h
 | .inp,_=>by unfold ExW;trivial
theorem Dp:∀{xs:List Ex},om xs->Eh xs
 | [],_=>by unfold Eh;trivial
 | x::xs,h=>by unfold om at h;unfold Eh;exact⟨ik h.1,Dp h.2⟩
end
mutual
theorem J7:∀{x:Sm},SmP x->SmW x
 | .var n p none,h=>by unfold SmP at h;unfold SmW;exact jf h
 | .var n p (some r),h=>by unfold SmP at h;unfold SmW;exact⟨jf h.1,ik h.2⟩
 | .set n r,h=>by unfold SmP at h;unfold SmW;exact⟨jf h.1,ik h.2⟩
 | .cell l r,h=>by unfold SmP at h;unfold SmW;exact⟨h.1,ik h.2.1,ik h.2.2⟩
 | .iff r a b,h=>by unfold SmP at h;unfold SmW;exact⟨ik h.1,qj h.2.1,qj h.2.2⟩
 | .whl r a,h=>by unfold SmP at h;unfold SmW;exact⟨ik h.1,qj h.2⟩
 | .out r,h=>by unfold SmP at h;unfold SmW;exact ik h
 | .free r,h=>by unfold SmP at h;unfold SmW;exact ik h
 | .drain,_=>by unfold SmW;trivial
 | .ret none,_=>by unfold SmW;trivial
 | .ret (some r),h=>by unfold SmP at h;unfold SmW;exact ik h
 | .call r,h=>by unfold SmP at h;unfold SmW;exact⟨h.1,ik h.2⟩
theorem qj:∀{xs:List Sm},jW xs->ye xs
 | [],_=>by unfold ye;trivial
 | x::xs,h=>by unfold jW at h;unfold ye;exact⟨J7 h.1,qj h.2⟩
end
theorem xw {f:Fun} (h:FunP f):FunW f:=⟨jf h.name,λp hp=>jf (h.pars p hp),qj h.body⟩
theorem Ic (fs:List Fun) (bs:List Nat) (nm:Tx) (U0:Tx->Option Value) (lo:Nat) (fp:Bool) (l r:Ex):StC fs bs nm U0 lo fp (.cell l r):=by
 intro w n k f t mu s u z c b e m hd j a o i;have d:=i;unfold SmW at d;obtain⟨⟨x,y,h⟩,_⟩:=d;rcases h with rfl|rfl
 ·exact yC fs bs nm U0 lo fp _ r 5 (.inl rfl) (λv A lb h=>by rw[bK]at h;obtain⟨_,e,p,q,g,_⟩:=h;exact(ae g 0).trans rfl) w n k f t mu s u z c b e m hd j a o i
 ·exact yC fs bs nm U0 lo fp _ r 6 (.inr rfl) (λv A lb h=>by rw[bK]at h;obtain⟨_,e,p,q,g,_⟩:=h;exact(ae g 0).trans rfl) w n k f t mu s u z c b e m hd j a o i
theorem EK (fs:List Fun) (bs:List Nat) (nm:Tx) (U0:Tx->Option Value) (lo:Nat) (fp:Bool) (r:Ex):StC fs bs nm U0 lo fp (.call r):=by
 intro w n k f o mu m p q c b l i hd h e j g;have d:=g;unfold SmW at d;obtain⟨⟨s,a,rfl⟩,_⟩:=d;exact Id fs bs nm U0 lo fp s a w n k f o mu m p q c b l i hd h e j g
mutual
theorem Ie (fs:List Fun) (bs:List Nat) (nm:Tx) (U0:Tx->Option Value) (lo:Nat) (fp:Bool):∀x:Sm,StC fs bs nm U0 lo fp x
 | .var n p none=>Hz fs bs nm U0 lo fp n p
 | .var n p (some r)=>Hy fs bs nm U0 lo fp n p r
 | .set n r=>J1 fs bs nm U0 lo fp n r
 | .cell l r=>Ic fs bs nm U0 lo fp l r
 | .iff r a b=>J4 fs bs nm U0 lo fp r a b (nA fs bs nm U0 lo fp a) (nA fs bs nm U0 lo fp b)
 | .whl r a=>J0 fs bs nm U0 lo fp r a (nA fs bs nm U0 lo fp a)
 | .out r=>J3 fs bs nm U0 lo fp r
 | .free r=>Ib fs bs nm U0 lo fp r
 | .drain=>EJ fs bs nm U0 lo fp
 | .ret none=>Ia fs bs nm U0 lo fp
 | .ret (some r)=>H9 fs bs nm U0 lo fp r
 | .call r=>EK fs bs nm U0 lo fp r
theorem nA (fs:List Fun) (bs:List Nat) (nm:Tx) (U0:Tx->Option Value) (lo:Nat) (fp:Bool):∀(l:List Sm),∀x∈l,StC fs bs nm U0 lo fp x
 | [],_,h=>absurd h (by simp)
 | y::l,x,h=>(aR.1 h).elim (λe=>e▸Ie fs bs nm U0 lo fp y) (λh=>nA fs bs nm U0 lo fp l x h)
end
theorem nW {w:World} {A:Nat->Prop}:∀{bs:List Nat} {fs:List Fun} {j:Nat} {f:Fun},dV w A bs fs->fs[j]?=some f->∃b,bs[j]?=some b/\ji w A b f
 | [],[],_,_,_,h=>by simp at h
 | b::bs,x::fs,0,f,h,e=>by
  simp at e;subst e;exact⟨b,rfl,h.1⟩
 | b::bs,x::fs,j+1,f,h,e=>by
  obtain⟨c,a,d⟩:=nW (j:=j) h.2 (by simpa using e);exact⟨c,by simpa using a,d⟩
 | [],_::_,_,_,h,_=>h.elim
 | _::_,[],_,_,h,_=>h.elim
structure KG (w:World) (k mf mu:Nat) (fs:List Fun) (bs:List Nat) (left:Nat) (us:List (List Tx)):Prop where
 hk:w.heap[k]?=some (.cells #[mP mf,mP mu,.int .i64 left] 281 (0,0))
 funcs:∃sz,bz w mf (λt=>(fQ fs bs t).map pB) sz
 uses:∃sz L,bz w mu L sz/\sz+left<=1000000/\(∀(j:Nat) (f:Fun) (u:List Tx),fs[j]?=some f->us[j]?=some u->w.ownsRow 0 9 1 ((L f.name).getD (.slice none 0 0)) u.length (txs u))/\(∀t:Tx,(∀(j:Nat) (f:Fun),j<us.length->fs[j]?=some f->f.name≠t)->L t=none)
 lefts:left<=65536
 usesl:∀u∈us,u.length<=1000000
theorem KG.chg {S:Nat->Prop} {us:List (List Tx)} (h:KG w k mf mu fs bs left us) (hc:Chg S w w') (h1:¬S k) (h2:¬S mf) (h3:¬S mu) (h4:∀g cur fr,w.heap[g]?=some (.cells cur 9 fr)->¬S g):KG w' k mf mu fs bs left us:=by
 obtain⟨sz,L,d,e,b,i⟩:=h.uses;exact⟨by rw[hc.block _ (ab h.hk) h1];exact h.hk,(by obtain⟨s,a⟩:=h.funcs;exact⟨s,a.chg hc h2⟩),⟨sz,L,d.chg hc h3,e,λj f u hf hu=>aY (b j f u hf hu) hc λg hg=>by obtain⟨cur,fr,c⟩:=bG (b j f u hf hu) hg;exact h4 g cur fr c,i⟩,h.lefts,h.usesl⟩
theorem KG.below {us:List (List Tx)} (h:KG w k mf mu fs bs left us) (hb:Below w.heap.size w w'):KG w' k mf mu fs bs left us:=
 h.chg (Chg.of_below (S:=λ_=>False) hb) id id id λ_ _ _ _=>id
structure KGD (k mf mu lo:Nat):Prop where
 l:lo<=k/\lo<=mf/\lo<=mu
 n:¬mf=mu/\¬k=mf/\¬k=mu
def zH (o:Option (Nat×List Tx)) (k mf mu:Nat) (fs:List Fun) (bs:List Nat) (us:List (List Tx)) (w:World) (e:Ending) (w':World):Prop:=
 Chg (λi=>i=k\/i=mu) w w'/\match o with
 | none=>Eq e
 | some (left',u)=>e=.returned (.tuple #[])/\KG w' k mf mu fs bs left' (us++[u])
def Mw (n k f mf mu md mt:Nat) (fs:List Fun) (bs:List Nat) (nm:Tx) (U0:Tx->Option Value) (lo:Nat) (fp:Bool) (w3:World) (ps:List Par) (c0:CS) (j:Nat) (wr:World):Prop:=
 ∃cj,SRel n k f mf mu md mt fs bs nm U0 none lo fp w3 wr cj/\nH ps c0=nH (ps.drop j) cj
theorem Fh {ps:List Par} {p:Par} (h:ps[j]?=some p) (c:CS):nH (ps.drop j) c=(lU p.name p.ptr c).bind λc=>nH (ps.drop (j+1)) c:=by
 obtain⟨b,a⟩:=aE.1 h;rw[Ef b,a,nH]
theorem F4 (fs:List Fun) (bs:List Nat) (lo:Nat) (w:World) (k mf mu fb left j:Nat) (f:Fun) (us:List (List Tx)) (hG:KG w k mf mu fs bs left us) (hD:KGD k mf mu lo) (hE:Env w lo bs fs) (hj:us.length=j) (hf:fs[j]?=some f) (hb:bs[j]?=some fb) (hnd:(fs.map (·.name)).Nodup) (hw:FunW f):
  Calls prog 181 #[pB k,pB fb] w (zH (rx fs f left) k mf mu fs bs us w):=by
 obtain⟨b,V,hA,n,vp,vb,xs,hn,hp,r,hs⟩:=nW hE.funs hf;have aL:b=fb:=by rw[hb]at V;exact(aT V).symm
 subst aL;have am:b<lo:=hA;have aQ:=ab hG.hk;obtain⟨b6,A⟩:=hG.funcs;obtain⟨b7,L,I,av,a1,a2⟩:=hG.uses;have b9:=A.lt;have bb:=I.lt;have G:=ab hn;have X:=hD.l;generalize J:w.alloc (.map #[] 0)=w1;generalize K:w1.alloc (.map #[] 0)=w2;generalize M:w2.alloc (.cells #[pB k,pB b,mP w.heap.size,mP (w.heap.size+1)] 320)=w3;have z1:w1.heap.size=w.heap.size+1:=by rw[<- J];exact ah _ _
 have z2:w2.heap.size=w.heap.size+1+1:=by rw[<- K,ah,z1]
 have z3:w3.heap.size=w.heap.size+1+1+1:=by rw[<- M,ah,z2]
 have e1:Below w.heap.size w w1:=by rw[<- J];exact az
 have e2:Below w1.heap.size w1 w2:=by rw[<- K];exact az
 have e3:Below w2.heap.size w2 w3:=by rw[<- M];exact az
 have a:Below w.heap.size w w3:=e1.trans ((e2.trans (e3.mono (by omega))).mono (by omega));have aq:bz w3 w.heap.size (λ_=>none) 0:=by
  have h0:bz w1 w.heap.size (λ_=>none) 0:=by rw[<- J];exact bz.made w
  exact(h0.below e2).below e3
 have ar:bz w3 (w.heap.size+1) (λ_=>none) 0:=by
  have h0:bz w2 w1.heap.size (λ_=>none) 0:=by rw[<- K];exact bz.made w1
  rw[z1]at h0;exact h0.below e3
 have au:w3.heap[w.heap.size+1+1]?=some (.cells #[pB k,pB b,mP w.heap.size,mP (w.heap.size+1)] 320 (0,0)):=by rw[<- M,<- z2];exact af _ _
 have s:L f.name=none:=a2 _ λi g hi d e=>by
  have h1:(fs.map (·.name))[i]?=some f.name:=by rw[aG,d];exact aB some e
  have h2:(fs.map (·.name))[j]?=some f.name:=by rw[aG,hf];rfl
  have:=(List.getElem?_inj (by rw[be];exact(aE.1 d).1) hnd).1 (h1.trans h2.symm);omega
 have aR:=hG.lefts;have ai:KI w3 (w.heap.size+1+1) k b mf mu w.heap.size (w.heap.size+1) fs bs f.name L none ⟨left,[],[],[]⟩:=by
  refine⟨au,by rw[a.block k aQ];exact hG.hk,⟨f.ptr,vp,vb,n,by rw[a.block _ G];exact hn⟩,?_,⟨0,?_,ag _⟩,⟨b6,A.below a⟩,⟨b7,L,I.below a,av,λ_ _=>rfl,?_,?_⟩,aR,?_,by simp,hw.name⟩
  ·simpa using aq
  ·simpa using ar
  ·rw[s];exact bq _ _ _ _
  ·rw[s];rfl
  ·show 0+left<=1000000;omega
 have ad:KD (w.heap.size+1+1) k b mf mu w.heap.size (w.heap.size+1) none lo:=
  ⟨⟨by omega,X.1,am,X.2.1,X.2.2,by omega,by omega⟩,⟨by omega,by omega,by omega,by omega,by omega⟩,⟨hD.n.2.1,hD.n.2.2,by omega,by omega⟩,⟨hD.n.1,by omega,by omega,by omega,by omega,by omega⟩,λg d=>by cases d⟩
 have a8:Env w3 lo bs fs:=hE.onA (aX.below a);have a9:FP w3 b f.name f.ptr:=⟨vp,vb,n,by rw[a.block _ G];exact hn⟩;have s0:SRel (w.heap.size+1+1) k b mf mu w.heap.size (w.heap.size+1) fs bs f.name L none lo f.ptr w3 w3 ⟨left,[],[],[]⟩:=SRel.start ai ad a8 a9;obtain⟨pa,pn,pc,H⟩:=bD hp.1;have b1:pn=f.params.length:=gx hp.1 H;subst b1;have y:Hid (∀v e,lV ((nH f.params ⟨left,[],[],[]⟩).bind λc=>gY fs f.ptr f.body c) (w.heap.size+1+1) k b mf mu w.heap.size (w.heap.size+1) fs bs f.name L none lo w3 e v->zH (rx fs f left) k mf mu fs bs us w e v):=by
  intro v e F;obtain⟨hc,F⟩:=F;have ak:Chg (λi=>i=k\/i=mu) w v:=(Chg.of_below a).trans hc λi hi hs=>by
   rcases hs with h|h|h|h|h|h
   ·omega
   ·exact .inl h
   ·exact .inr h
   ·omega
   ·omega
   ·cases h
  refine⟨ak,?_⟩;unfold rx;cases hq:nH f.params ⟨left,[],[],[]⟩with
  | none=>rw[hq]at F;exact F
  | some c1 =>
   rw[hq]at F;simp only[aj]at F ⊢;cases hq2:gY fs f.ptr f.body c1 with
   | none=>rw[hq2]at F;exact F
   | some c2 =>
    rw[hq2]at F;obtain⟨rfl,bd,bc,B,b8,_,_⟩:=F;refine⟨rfl,?_⟩;obtain⟨b5,L2,m1,m2,m3,m4,m5⟩:=B.uses;refine⟨B.hk,B.funcs,⟨b5,L2,m1,m2,λi g u d l=>?_,λt ht=>?_⟩,B.lefts,λu l=>?_⟩
    ·rcases gG i us.length with hi|hi
     ·rw[List.getElem?_append_left hi]at l
      have Z:g.name≠f.name:=λe=>by
       have h1:(fs.map (·.name))[i]?=some f.name:=by rw[aG,d];exact aB some e
       have h2:(fs.map (·.name))[j]?=some f.name:=by rw[aG,hf];rfl
       have:=(List.getElem?_inj (by rw[be];exact(aE.1 d).1) hnd).1 (h1.trans h2.symm);omega
      rw[m3 _ Z];refine aY (a1 i g u d l) ak λq hq e=>?_;obtain⟨aK,fr,Q⟩:=bG (a1 i g u d l) hq;rcases e with rfl|rfl
      ·rw[hG.hk]at Q;injection Q with Q;injection Q with _ h9 _;exact absurd h9 (by decide)
      ·obtain⟨D,⟨es,aI,aM,_⟩,_⟩:=I
       rw[aM]at Q;injection Q with Q;cases Q
     ·have ao:i=us.length:=by
       have:=(aE.1 l).1;rw[ac]at this;simp at this;omega
      have b2:u=c2.uses:=by rw[ao,fd (ag _)]at l;simpa using l.symm
      have aN:g=f:=by rw[ao,hj,hf]at d;exact(aT d).symm
      subst b2 aN;exact m4
    ·have Z:t≠f.name:=λe=>ht j f (by rw[ac,hj];simp) hf e.symm
     rw[m3 t Z];exact a2 t λi g hi d=>ht i g (by rw[ac];omega) d
    ·rcases aU.1 l with h|h
     ·exact hG.usesl u h
     ·rw[aZ]at h;subst h;have:=B.usesl;omega
 have ay:=aa hp;have a5:=aa (⟨r.on (aX.below a),hs.onA (aX.below a)⟩:li w3 (Lt lo) 195 vb xs.length (xs.map pB)/\cu w3 (Lt lo) xs f.body);have N:=aa a;have ax:=aa hn;have c1:w3.cell? ⟨b,1,none⟩=some (.slice pa f.params.length pc):=by
  have:w3.heap[b]?=some (fnC f.name vp f.ptr vb n):=by rw[a.block _ G];exact hn
  rw[H]at this;exact(ae this 1).trans rfl
 have a6:=aa (show Mw (w.heap.size+1+1) k b mf mu w.heap.size (w.heap.size+1) fs bs f.name L lo f.ptr w3 f.params ⟨left,[],[],[]⟩ 0 w3 from⟨_,s0,rfl⟩);have ba:=@run_makeMap prog;have aW:=sQ hp.1;have a7:=aa hw;have aC:=aa H;clear hG hE hnd I av a1 a2 A hn r hs aq ar au ai ad a8 a9 s0 hp a e1 e2 e3 hw H s hf hb V hA;have S:=aa a7.body
 go_enter func181,ntmps181
 go_wp2_with fail
 go_loopw [6,18] (λ_ s18 wr=>∃j:Nat,s18=.int .i64 j/\j<=f.params.length/\Hid (Mw (w.heap.size+1+1) k b mf mu w.heap.size (w.heap.size+1) fs bs f.name L lo f.ptr w3 f.params ⟨left,[],[],[]⟩ j wr)) (λ_ s18 _=>match s18 with | .int _ j=>f.params.length-j.toNat|_=>0)
 case atStart=>exact⟨0,rfl,aV _,a6⟩
 case round =>
  clear a6 J K M c1
  rename World=>w5
  obtain⟨i,rfl,hi,hr⟩:=hrel;obtain⟨cj,sj,al⟩:=hr.out;clear hr;have SJ:=aa sj;have T:=aa al;have Y:w5.heap[b]?=some (fnC f.name vp f.ptr vb n):=sj.tree b _ am (by rw[N.block _ G];exact ax.out);have f3:w5.cell? ⟨b,3,none⟩=some vb:=(ae Y 3).trans rfl;have f4:w5.cell? ⟨b,4,none⟩=some (.int .i64 n):=(ae Y 4).trans rfl;clear al Y
  by_cases hlt:i<f.params.length
  ·have a0:=(ay.on (aX.below N.out)).on sj.tree
   obtain⟨R,E,a3⟩:∃R E,vp=.slice (some ⟨R,0,none⟩) f.params.length E:=by
    rcases a0.1.2 with⟨_,h0⟩|⟨R,aF,aK,b3,_⟩
    ·omega
    ·exact⟨R,aF,b3⟩
   have b0:pa=some ⟨R,0,none⟩:=by have:=aC.out;rw[a3]at this;injection this with h1 _ _;exact h1.symm
   have x:w5.ownsRow 0 140 2 (.slice (some ⟨R,0,none⟩) f.params.length E) f.params.length (bE f.params):=a3▸a0.1;obtain⟨m,C⟩:∃m,f.params[i]?=some m:=⟨_,aw hlt⟩;obtain⟨q1,q2⟩:=lA f.params i;have e0:w5.cell? ⟨R,i*2,none⟩=some (.string ⟨m.name.toArray⟩):=by rw[x.cellAt (i*2) (by omega),q1,C];rfl
   have e1:w5.cell? ⟨R,i*2+1,none⟩=some (.bool m.ptr):=by rw[x.cellAt (i*2+1) (by omega),q2,C];rfl
   have aA:=aa (a7.pars m (aJ C));have P:=aa (Fh C cj);have z:decide ((i:Int)<(f.params.length:Int))=true:=by simp;omega
   have W:Below w5.heap.size w5 (w5.alloc (.cells #[.string ⟨m.name.toArray⟩,.bool m.ptr] 140)):=az;have an:(w5.alloc (.cells #[.string ⟨m.name.toArray⟩,.bool m.ptr] 140)).heap[w5.heap.size]?=some (.cells #[.string ⟨m.name.toArray⟩,.bool m.ptr] 140 (0,0)):=af _ _;have S7:=aa (sj.below W);have a4:=aa W;have U:=aa an;have b4:=aH f4;have aS:f.params.length-((i:Int)+1).toNat<f.params.length-(i:Int).toNat:=ee hlt;have aP:wrap64 ((i:Int)+1)=(i:Int)+1:=fR _ (by unfold maxLen at aW;omega);have aO:i+1<=f.params.length:=hlt;subst b0;clear a0 a3 x C q1 q2 sj W an f3;go_wp2_with fail;generalize w5.alloc (.cells #[.string ⟨m.name.toArray⟩,.bool m.ptr] 140)=w7 at S7 a4 U;have x0:w7.cell? ⟨w5.heap.size,0,none⟩=some (.string ⟨m.name.toArray⟩):=(ae U.out 0).trans rfl;have x1:w7.cell? ⟨w5.heap.size,1,none⟩=some (.bool m.ptr):=(ae U.out 1).trans rfl;have x4:w7.cell? ⟨b,4,none⟩=some (.int .i64 n):=(a4.cell (p:=⟨b,4,none⟩) b4).trans f4;clear e0 e1 f4 z
   go_still_tail 9,(by kernel_rfl)
   change wpList _ _ _ _ _ w7.drew;go_wp2_with fail;refine(S7.drew.decl aA.out n m.ptr).mono ?_;intro e u l;cases r:lU m.name m.ptr cj with
   | none =>
    obtain⟨c1,l1,rfl,d⟩:=SRel.gave l r;have HG:=aa (y.out u _ (d _ (by rw[T.out,P.out,r];rfl)));clear r l d;go_wp2_with fail;exact⟨rfl,HG.out⟩
   | some c2 =>
    obtain⟨rfl,s2⟩:=SRel.go l r S7.out;have aD:=aa (show Mw (w.heap.size+1+1) k b mf mu w.heap.size (w.heap.size+1) fs bs f.name L lo f.ptr w3 f.params ⟨left,[],[],[]⟩ (i+1) u from⟨c2,s2,by rw[T.out,P.out,r];rfl⟩);clear r l s2 x0 x1 x4;go_wp2_with fail;rw[aP];exact⟨⟨i+1,by simp,aO,aD⟩,aS⟩
  ·have ap:i=f.params.length:=by omega
   have z:decide ((i:Int)<(f.params.length:Int))=false:=by simp;omega
   have O:=aa (show nH f.params ⟨left,[],[],[]⟩=some cj by rw[T.out,ap,List.drop_length];rfl);have HC:=aa (sj.drew.block (nA fs bs f.name L lo f.ptr f.body) a5.out.1 a5.out.2 S.out n);clear ap sj;go_wp2_with fail
   go_still_tail 9,(by kernel_rfl)
   change wpList _ _ _ _ _ w5.drew;go_wp2_with fail;refine HC.mono ?_;intro e u l;cases r:gY fs f.ptr f.body cj with
   | none =>
    obtain⟨c1,l1,rfl,d⟩:=SRel.gave l r;have HG:=aa (y.out u _ (d _ (by rw[O.out];exact r)));clear r l d;go_wp2_with fail;exact⟨rfl,HG.out⟩
   | some c2 =>
    obtain⟨rfl,s2⟩:=SRel.go l r SJ.out;have HG:=aa (y.out u _ (s2.ended (o:=(nH f.params ⟨left,[],[],[]⟩).bind λc=>gY fs f.ptr f.body c) (by rw[O.out];exact r)));clear r l s2 f3 f4;go_wp2_with fail;go_end0;exact HG.out
abbrev mg:Tx:=[109,97,105,110]
structure PrgAt (w:World) (lo pb:Nat) (pv:Value) (bs:List Nat) (fs:List Fun):Prop where
 node:w.heap[pb]?=some (.cells #[pv] 57 (0,0))
 own:li w (Lt lo) 61 pv bs.length (bs.map pB)
 funs:dV w (Lt lo) bs fs
 lt:pb<lo
theorem PrgAt.onA {lo pb:Nat} {pv:Value} (h:PrgAt w lo pb pv bs fs) (hs:aX (Lt lo) w w'):PrgAt w' lo pb pv bs fs:=
 ⟨hs pb _ h.lt h.node,h.own.on hs,h.funs.onA hs,h.lt⟩
theorem nV {w:World} {A:Nat->Prop}:∀{bs:List Nat} {fs:List Fun},dV w A bs fs->bs.length=fs.length
 | [],[],_=>rfl
 | b::bs,x::fs,h=>by rw[aC,aC,nV h.2]
 | [],_::_,h=>h.elim
 | _::_,[],h=>h.elim
theorem qU:∀(fs:List Fun) (bs:List Nat) (f:Fun) (b:Nat),bs.length=fs.length->f.name ∉ fs.map (·.name)->∀t,fQ (fs++[f]) (bs++[b]) t=if t=f.name then some b else fQ fs bs t
 | [],[],f,b,_,_,t=>by
  rw[bh,bh,jy]
  by_cases h:t=f.name
  ·rw[ax h,ax h.symm]
  ·rw[ap h,ap (λe=>h e.symm)]
 | g::fs,c::bs,f,b,hl,hn,t=>by
  rw[bB,bB,jy,jy,qU fs bs f b (by simpa using hl) (λh=>hn (aP _ h)) t]
  by_cases h:g.name=t
  ·rw[ax h,ax h]
   have:t≠f.name:=λe=>hn (by rw[dX,<- e,<- h];exact aL ..);rw[ap this]
  ·rw[ap h,ap h]
 | [],_::_,_,_,hl,_,_=>by simp at hl
 | _::_,[],_,_,hl,_,_=>by simp at hl
theorem rV (hl:bs.length=fs.length) (t:Tx):(fQ fs bs t).isSome=decide (t∈fs.map (·.name)):=by
 induction fs generalizing bs with
 | nil=>cases bs<;>simp[fQ]
 | cons f fs ih =>
  cases bs with
  | nil=>simp at hl
  | cons b bs =>
   rw[jy]
   by_cases h:f.name=t
   ·rw[ax h];simp[h]
   ·rw[ap h,ih (by simpa using hl)]
    have:¬t=f.name:=λe=>h e.symm;simp[this]
def f8 (fs:List Fun) (bs:List Nat) (mf:Nat) (w:World) (e:Ending) (w':World):Prop:=
 Chg (·=mf) w w'/\if fJ fs=true then e=.returned (.tuple #[])/\∃sz,bz w' mf (λt=>(fQ fs bs t).map pB) sz else Eq e
theorem f8.no {c l:Int} (hc:Chg (·=mf) w w') (h:fJ fs=false):f8 fs bs mf w (lN c l) w':=⟨hc,by rw[ap (by rw[h];decide)];exact⟨_,_,rfl⟩⟩
def HdL (fs:List Fun) (bs:List Nat) (mf:Nat) (w:World) (j:Nat) (wr:World):Prop:=
 Chg (·=mf) w wr/\j<=200/\((fs.take j).map (·.name)).Nodup/\bz wr mf (λt=>(fQ (fs.take j) (bs.take j) t).map pB) j
theorem AK (h:200<fs.length):fJ fs=false:=by unfold fJ;rw[iV (by omega)];rfl
theorem xp (h:¬(fs.map (·.name)).Nodup):fJ fs=false:=by unfold fJ;rw[iV h];simp
theorem rT (h:(match km fs mg with|some f=>f.params.isEmpty&&!f.ptr|none=>false)=false):fJ fs=false:=by
 unfold fJ;cases hq:km fs mg with
 | none=>simp
 | some f =>
  rw[hq]at h;simp only at h ⊢;rw[h,Bool.and_false]
theorem C9 (h1:fs.length<=200) (h2:(fs.map (·.name)).Nodup) (h:(match km fs mg with|some f=>f.params.isEmpty&&!f.ptr|none=>false)=true):fJ fs=true:=by
 unfold fJ;rw[dr h1,dr h2];cases hq:km fs mg with
 | none=>rw[hq]at h;cases h
 | some f =>
  rw[hq]at h;simp only at h ⊢;rw[h];rfl
theorem Da (fs:List Fun) (bs:List Nat) (lo:Nat) (w:World) (k mf mu pb:Nat) (left:Nat) (pv:Value) (hk:w.heap[k]?=some (.cells #[mP mf,mP mu,.int .i64 left] 281 (0,0))) (hm:bz w mf (λ_=>none) 0) (hP:PrgAt w lo pb pv bs fs) (hD:KGD k mf mu lo) (hw:∀f∈fs,FunW f):
  Calls prog 180 #[pB k,pB pb] w (f8 fs bs mf w):=by
 have hl:=nV hP.funs;obtain⟨pa,pn,pc,D⟩:=bD hP.own.1;have ac:pn=fs.length:=by rw[gx hP.own.1 D,hl]
 subst ac;have c0:w.cell? ⟨pb,0,none⟩=some (.slice pa fs.length pc):=by
  have:=hP.node;rw[D]at this;exact(ae this 0).trans rfl
 have az:fs.length<=maxLen:=by rw[<- hl];exact sQ hP.own.1
 have aD:=hD.l;have HP:=aa hP;have HK:=aa hk;have Z:=aa D;have HW:=aa hw;have au:=ab hk;have a1:=aa (show HdL fs bs mf w 0 w from⟨Chg.refl _ _,by omega,by simp,by simpa [fQ]using hm⟩);have aA:=hP.lt;have a5:¬k=mf:=hD.n.2.1;clear hP hk hm D hw
 go_enter func180,ntmps180
 go_wp2_with fail
 go_loopw [4,5,6,7,15] (λ_ _ _ _ s15 wr=>∃j:Nat,s15=.int .i64 j/\j<=fs.length/\Hid (HdL fs bs mf w j wr)) (λ_ _ _ _ s15 _=>match s15 with | .int _ j=>fs.length-j.toNat|_=>0)
 case atStart=>exact⟨0,rfl,aV _,a1⟩
 case round =>
  clear a1 c0
  rename World=>w5
  obtain⟨j,rfl,hj,hr⟩:=hrel;obtain⟨O,aF,a9,a8⟩:=hr.out;clear hr;have y:aX (Lt lo) w w5:=O.sameOn λi hi e=>by subst e;have:i<lo:=hi;omega
  have J:=aa (HP.onA y);have k0:w5.cell? ⟨k,0,none⟩=some (mP mf):=by
   have:w5.heap[k]?=_:=(O.block k au a5).trans HK.out;exact(ae this 0).trans rfl
  have HC:=aa O;have X:=aa a9;have HM:=aa a8;clear O a9 a8 y
  by_cases hlt:j<fs.length
  ·have T:=J.own
   obtain⟨U,p,z⟩:∃U p,(.slice pa fs.length pc:Value)=.slice (some ⟨U,0,none⟩) bs.length p:=by
    rw[<- Z.out];rcases T.1.2 with⟨_,h0⟩|⟨U,p,aC,z,_⟩
    ·omega
    ·exact⟨U,p,z⟩
   have ay:pa=some ⟨U,0,none⟩:=by injection z
   have F:w5.ownsRow 0 61 1 (.slice (some ⟨U,0,none⟩) bs.length p) bs.length (bs.map pB):=by rw[<- z,<- Z.out];exact T.1
   obtain⟨f,hf⟩:∃f,fs[j]?=some f:=⟨_,aw hlt⟩;obtain⟨A,P,hA,c,vp,vb,xs,hn,_,_,_⟩:=nW J.funs hf;have e0:w5.cell? ⟨U,j,none⟩=some (pB A):=by rw[F.cellAt j (by omega),aG,P];rfl
   have f0:w5.cell? ⟨A,0,none⟩=some (.string ⟨f.name.toArray⟩):=(ae hn 0).trans rfl;have f4:w5.cell? ⟨A,4,none⟩=some (.int .i64 c):=(ae hn 4).trans rfl;have a3:decide ((j:Int)<(fs.length:Int))=true:=by simp;omega
   have an:f∈fs:=aJ hf;have S:=(HW.out f an).name;have af:fs.take (j+1)=fs.take j++[f]:=by
    obtain⟨h1,h2⟩:=aE.1 hf;rw[iN h1,h2]
   have ad:bs.take (j+1)=bs.take j++[A]:=by
    obtain⟨h1,h2⟩:=aE.1 P;rw[iN h1,h2]
   have a7:(bs.take j).length=(fs.take j).length:=by simp[hl]
   have K:=aa af;have aj:=aa ad;have G:=aa a7;subst ay;clear T z F hn af ad a7 hf P;go_wp2_with fail;refine(bi w5 2 0).mono ?_;rintro e u ⟨rfl,rfl⟩
   by_cases h200:j<200
   ·have al:decide ((j:Int)<200)=true:=by simp;omega
    have am:((j:Int)<200):=by omega
    go_wp2_with fail;refine(bi w5 3 c).mono ?_;rintro e u ⟨rfl,rfl⟩
    by_cases hdup:f.name∈(fs.take j).map (·.name)
    ·obtain⟨v0,m⟩:∃v0,((fQ (fs.take j) (bs.take j) f.name).map pB)=some v0:=by
      have:=rV G.out f.name;rw[dr hdup]at this;obtain⟨q,V⟩:=iZ.1 this;exact⟨pB q,by rw[V];rfl⟩
     have l:∀q,(Instr.lookup 278 (mP mf) (.string ⟨f.name.toArray⟩) true).run prog (w5.drewN q)=.ok (.tuple #[v0,.bool true]) (w5.drewN q):=λq=>by
      have N:Below w5.heap.size w5 (w5.drewN q):=⟨rfl,rfl,rfl,ag _,λk hk=>rfl⟩;have:=(HM.below N).look2 (t:=278) underlying278 (rB (w5.drewN q)) S true;simp only[m]at this;exact this
     have I:=aa (xp (fs:=fs) λh=>by
      have:((fs.take (j+1)).map (·.name)).Nodup:=by rw[List.map_take];exact h.sublist (List.take_sublist _ _)
      rw[K.out,dT,List.nodup_append]at this;exact this.2.2 _ hdup _ (aZ.2 rfl) rfl)
     clear m hdup;go_wp2_with fail
     go_quiet (fail)
     have n:=aa (HC.on (⟨rfl,rfl,rfl,ag _,λ_ _=>rfl⟩:Below w5.heap.size w5 (w5.drewN nq)));have g4:(w5.drewN nq).cell? ⟨A,4,none⟩=some (.int .i64 c):=f4;clear l e0 f0 f4 k0;generalize w5.drewN nq=w6 at n g4;go_wp2_with fail;refine(eY w6 11 c).mono ?_;rintro e u ⟨rfl,rfl⟩;go_wp2_with fail;exact⟨rfl,f8.no n.out I.out⟩
    ·have m:(fQ (fs.take j) (bs.take j) f.name).map pB=none:=by
      have:=rV G.out f.name;rw[iV hdup]at this;rw[Option.isSome_eq_false_iff.1 this |> Option.isNone_iff_eq_none.1];rfl
     have l:∀q,(Instr.lookup 278 (mP mf) (.string ⟨f.name.toArray⟩) true).run prog (w5.drewN q)=.ok (.tuple #[.pointer none,.bool false]) (w5.drewN q):=λq=>by
      have N:Below w5.heap.size w5 (w5.drewN q):=⟨rfl,rfl,rfl,ag _,λk hk=>rfl⟩;have:=(HM.below N).look2 (t:=278) underlying278 (rB (w5.drewN q)) S true;simp only[m]at this;exact this
     have ak:=aa m;have E:=aa hdup;clear m hdup;go_wp2_with fail
     go_quiet (fail)
     have M:Below w5.heap.size w5 (w5.drewN nq):=⟨rfl,rfl,rfl,ag _,λ_ _=>rfl⟩;have n:=aa (HC.on M);have W:=aa (HM.below M);have g4:(w5.drewN nq).cell? ⟨A,4,none⟩=some (.int .i64 c):=f4;have g0:(w5.drewN nq).cell? ⟨A,0,none⟩=some (.string ⟨f.name.toArray⟩):=f0;have gk:(w5.drewN nq).cell? ⟨k,0,none⟩=some (mP mf):=k0;clear l e0 f0 f4 k0 M;generalize w5.drewN nq=w6 at n W g4 g0 gk;obtain⟨w7,aB,L,a2⟩:=(W.below (ai _ _).drew).put (t:=278) underlying278 (by unfold maxLen;omega) S (pB A);have a0:=aa (show HdL fs bs mf w (j+1) w7 from⟨(n.drew).grown a2 (λi hi _=>(aT hi).symm),by omega,by
       rw[K.out,dT,List.nodup_append];exact⟨X.out,by simp,λa ha b hb e=>E.out (by rw[dX,kW,aZ]at hb;rw[<- hb,<- e];exact ha)⟩,by
       rw[ak.out]at L;rw[K.out,aj.out];have a4:(λt=>(fQ (fs.take j++[f]) (bs.take j++[A]) t).map pB)=upd (λt=>(fQ (fs.take j) (bs.take j) t).map pB) f.name (pB A):=by
        funext t
        rw[qU _ _ _ _ G.out E.out];unfold upd;split<;>rfl
       rw[a4];exact L⟩)
     clear L a2;have av:fs.length-((j:Int)+1).toNat<fs.length-(j:Int).toNat:=ee hlt;have ar:wrap64 ((j:Int)+1)=(j:Int)+1:=fR _ (by omega);have aq:j+1<=fs.length:=hlt;go_wp2_with fail;refine(bi w6 11 c).mono ?_;rintro e u ⟨rfl,rfl⟩;go_wp2_with fail
     go_still_tail 9,(by kernel_rfl)
     change wpList _ _ _ _ _ w6.drew;go_wp2_with fail;rw[ar];exact⟨⟨j+1,by simp,aq,a0⟩,av⟩
   ·have al:decide ((j:Int)<200)=false:=by simp;omega
    have am:¬((j:Int)<200):=by omega
    go_wp2_with fail;refine(eY w5 3 c).mono ?_;rintro e u ⟨rfl,rfl⟩;go_wp2_with fail;exact⟨rfl,f8.no HC.out (AK (by omega))⟩
  ·have R:j=fs.length:=by omega
   have a3:decide ((j:Int)<(fs.length:Int))=false:=by simp;omega
   have B:=aa (show Chg (·=mf) w w5 from HC.out);have s:bz w5 mf (λt=>(fQ fs bs t).map pB) j:=by
    have:=HM.out;rw[R,cg,<- hl,cg]at this;rw[R,<- hl];exact this
   have x:(fs.map (·.name)).Nodup:=by have:=X.out;rw[R,cg]at this;exact this
   have H:=aa s;have Y:=aa x;have a6:fs.length<=200:=by omega
   have ah:mg.length<=4294967296:=by decide
   rcases De mg J.funs with⟨g,gb,r,C,hA,c,vp,vb,xs,hn,hp,_,_⟩|⟨r,C⟩
   ·have l:(Instr.lookup 278 (mP mf) (.string ⟨#[109,97,105,110]⟩) true).run prog w5=.ok (.tuple #[pB gb,.bool true]) w5:=by
     have:=s.look2 (t:=278) underlying278 (rB w5) ah true;rw[show(fQ fs bs mg).map pB=some (pB gb) by rw[C];rfl]at this;exact this
    obtain⟨ga,gn,gc,Q⟩:=bD hp.1;have ao:gn=g.params.length:=gx hp.1 Q;subst ao;rw[Q]at hn;have n1:w5.cell? ⟨gb,1,none⟩=some (.slice ga g.params.length gc):=(ae hn 1).trans rfl;have n2:w5.cell? ⟨gb,2,none⟩=some (.bool g.ptr):=(ae hn 2).trans rfl;have n4:w5.cell? ⟨gb,4,none⟩=some (.int .i64 c):=(ae hn 4).trans rfl;have o:=aa (show∀(v:World) e,Chg (·=mf) w v->bz v mf (λt=>(fQ fs bs t).map pB) j->(e=if g.params.isEmpty&&!g.ptr then Ending.returned (.tuple #[])else lN 10 c)->f8 fs bs mf w e v fromλv e O hm he=>by
     cases V:(g.params.isEmpty&&!g.ptr)with
     | true =>
      rw[V,ax rfl]at he;refine⟨O,?_⟩;rw[ax (C9 a6 Y.out (by rw[r];exact V))];exact⟨he,_,hm⟩
     | false =>
      rw[V,ap (by decide)]at he;subst he;exact f8.no O (rT (by rw[r];exact V)))
    clear s x hn hp Q r C;go_wp2_with fail;refine(bi w5 5 0).mono ?_;rintro e u ⟨rfl,rfl⟩
    by_cases hpe:g.params=[]
    ·cases hgp:g.ptr with
     | false =>
      rw[hgp]at n2;rw[hpe]at n1;have d:=aa (show∀q,f8 fs bs mf w (.returned (.tuple #[])) (w5.drewN q) fromλq=>o.out _ _ (B.on ⟨rfl,rfl,rfl,ag _,λ_ _=>rfl⟩) (H.below ⟨rfl,rfl,rfl,ag _,λ_ _=>rfl⟩) (by rw[hpe,hgp];rfl));go_wp2_with fail
      go_quiet (first
       | (go_at_call 183;exact(bi _ _ _).mono λe u ⟨h1,h2⟩=>⟨h1,_,h2.symm⟩))
      go_wp2_with fail;go_end0;exact d.out nq
     | true =>
      rw[hgp]at n2;rw[hpe]at n1;have d:=aa (show f8 fs bs mf w (lN 10 c) w5.drew from o.out _ _ B.drew (H.below (ai _ _).drew) (by rw[hpe,hgp];rfl));go_wp2_with fail
      go_still_tail 17,(by kernel_rfl)
      change wpList _ _ _ _ _ w5.drew;go_wp2_with fail;refine(eY w5.drew 10 c).mono ?_;rintro e u ⟨rfl,rfl⟩;go_wp2_with fail;exact⟨rfl,d.out⟩
    ·have ac:decide ((g.params.length:Int)=0)=false:=by
      have:g.params.length≠0:=λh=>hpe (List.length_eq_zero_iff.1 h);simp;omega
     have d:=aa (show f8 fs bs mf w (lN 10 c) w5.drew from o.out _ _ B.drew (H.below (ai _ _).drew) (by
      have:g.params.isEmpty=false:=by cases hx:g.params with
       | nil=>exact absurd hx hpe
       | cons a b=>rfl
      rw[this];rfl))
     go_wp2_with fail
     go_still_tail 17,(by kernel_rfl)
     change wpList _ _ _ _ _ w5.drew;go_wp2_with fail;refine(eY w5.drew 10 c).mono ?_;rintro e u ⟨rfl,rfl⟩;go_wp2_with fail;exact⟨rfl,d.out⟩
   ·have l:(Instr.lookup 278 (mP mf) (.string ⟨#[109,97,105,110]⟩) true).run prog w5=.ok (.tuple #[.pointer none,.bool false]) w5:=by
     have:=s.look2 (t:=278) underlying278 (rB w5) ah true;rw[show(fQ fs bs mg).map pB=none by rw[C];rfl]at this;exact this
    have I:=aa (rT (fs:=fs) (by rw[r]));clear s x;go_wp2_with fail;refine(eY w5 5 0).mono ?_;rintro e u ⟨rfl,rfl⟩;go_wp2_with fail;exact⟨rfl,f8.no B.out I.out⟩
def nK (S:List Tx) (t:Tx):Option Value:=if t∈S then some (.int .i64 1)else none
theorem yr (S:List Tx) (s:Tx):upd (nK S) s (.int .i64 1)=nK (s::S):=by
 funext t
 unfold upd nK
 by_cases h:t=s
 ·subst h;simp
 ·simp[h]
def Eb (us:List (Tx×List Tx)) (S S':List Tx):Prop:=(∀x∈S,x∈S')/\∀v∈us,v.1∈S'->v.1 ∉ S->∀g∈v.2,g∈S'
theorem Eb.refl (us:List (Tx×List Tx)) (S:List Tx):Eb us S S:=⟨λ_ h=>h,λ_ _ h1 h2=>absurd h1 h2⟩
theorem Eb.more (hnd:(us.map (·.1)).Nodup) {S2:List Tx} {v:Tx×List Tx} (hv:v∈us) (h1:Eb us S S1) (h2:Eb us (v.1::S1) S2) (h3:∀g∈v.2,g∈S2):Eb us S S2:=by
 refine⟨λx hx=>h2.1 x (aP _ (h1.1 x hx)),λz hz hz1 hz2 g hg=>?_⟩
 by_cases e:z.1=v.1
 ·have:z=v:=by
   obtain⟨i,a⟩:=fL.1 hz;obtain⟨j,c⟩:=fL.1 hv;have d:(us.map (·.1))[i]?=some z.1:=by rw[aG,a];rfl
   have f:(us.map (·.1))[j]?=some z.1:=by rw[aG,c,e];rfl
   have b:=(List.getElem?_inj (by rw[be];exact(aE.1 a).1) hnd).1 (d.trans f.symm);subst b;rw[a]at c;exact aT c
  subst this;exact h3 g hg
 ·by_cases hm:z.1∈S1
  ·exact h2.1 g (aP _ (h1.2 z hz hm hz2 g hg))
  ·refine h2.2 z hz hz1 (λh=>?_) g hg
   rcases aR.1 h with h|h
   ·exact e h
   ·exact hm h
theorem ET {S':List Tx} (h:Eb us [] S'):∀{a b:Tx},Rch us a b->(∀v∈us,v.1=a->∀g∈v.2,g∈S')->b∈S':=by
 intro a b f
 induction f with
 | one hu hg=>exactλc=>c _ hu rfl _ hg
 | step _ _ ih1 ih2 =>
  intro c;have d:=ih1 c;exact ih2 λv hv e g hg=>h.2 v hv (e▸d) (by simp) g hg
def uf (us:List (Tx×List Tx)) (S:List Tx):Nat:=((us.map (·.1)).filter λx=>decide (x ∉ S)).length
theorem nX {α:Type} {p q:α->Bool}:∀{l:List α} {x:α},(∀y,p y=true->q y=true)->x∈l->p x=false->q x=true->(l.filter p).length<(l.filter q).length
 | [],_,_,h,_,_=>by cases h
 | y::l,x,hpq,h,hp,hq=>by
  have b:∀l:List α,(l.filter p).length<=(l.filter q).length:=by
   intro l
   induction l with
   | nil=>exact ag _
   | cons z l a =>
    by_cases hz:p z=true
    ·rw[gE hz,gE (hpq z hz)];simp;exact a
    ·rw[oW hz]
     by_cases hz2:q z=true
     ·rw[gE hz2];simp;omega
     ·rw[oW hz2];exact a
  rcases aR.1 h with rfl|h
  ·rw[oW (by rw[hp];decide),gE hq]
   have:=b l;simp;omega
  ·have a:=nX hpq h hp hq
   by_cases hz:p y=true
   ·rw[gE hz,gE (hpq y hz)];simp;exact a
   ·rw[oW hz]
    by_cases hz2:q y=true
    ·rw[gE hz2];simp;omega
    ·rw[oW hz2];exact a
theorem wm (h:∀x∈S,x∈S1) (hg:g∈us.map (·.1)) (hn:g ∉ S1):uf us (g::S1)<uf us S:=by
 unfold uf;refine nX (x:=g) (λy hy=>?_) hg (by simp) (by simp;exactλh2=>hn (h g h2));simp only[bw]at hy ⊢
 exactλh2=>hy (aP _ (h y h2))
theorem ub (w:World):(zeroValue 3).run prog w=.ok (.int .i64 0) w:=by kernel_rfl
structure RGS (w:World) (k mf mu B1 B2 B3 ms:Nat) (us:List (Tx×List Tx)):Prop where
 b1:w.heap[B1]?=some (.cells #[pB k] 277 (0,0))
 b2:w.heap[B2]?=some (.cells #[mP ms] 110 (0,0))
 b3:w.heap[B3]?=some (.cells #[.func (.func 226) #[] #[pB B1,pB B2,pB B3]] 137 (0,0))
 hk:∃left:Nat,w.heap[k]?=some (.cells #[mP mf,mP mu,.int .i64 left] 281 (0,0))
 uses:∃sz L,bz w mu L sz/\∀u∈us,w.ownsRow 0 9 1 ((L u.1).getD (.slice none 0 0)) u.2.length (txs u.2)
 ne:B1≠ms/\B2≠ms/\B3≠ms/\k≠ms/\mu≠ms
theorem RGS.chg {B3:Nat} (h:RGS w k mf mu B1 B2 B3 ms us) (hc:Chg (·=ms) w w') {L:Tx->Option Value} (hm:bz w ms L sz):RGS w' k mf mu B1 B2 B3 ms us:=by
 obtain⟨left,d⟩:=h.hk;obtain⟨c,i,m,f⟩:=h.uses;refine⟨by rw[hc.block _ (ab h.b1) h.ne.1];exact h.b1,by rw[hc.block _ (ab h.b2) h.ne.2.1];exact h.b2,by rw[hc.block _ (ab h.b3) h.ne.2.2.1];exact h.b3,⟨left,by rw[hc.block _ (ab d) h.ne.2.2.2.1];exact d⟩,⟨c,i,m.chg hc h.ne.2.2.2.2,λu hu=>aY (f u hu) hc λg hg e=>?_⟩,h.ne⟩;subst e;obtain⟨j,o,a⟩:=bG (f u hu) hg;obtain⟨D,⟨n,b,l,_⟩,_⟩:=hm;rw[l]at a;injection a with a;cases a
structure Seen (w:World) (ms:Nat) (us:List (Tx×List Tx)) (S:List Tx):Prop where
 map:bz w ms (nK S) S.length
 nd:S.Nodup
 sub:∀x∈S,x∈us.map (·.1)
structure UsOk (us:List (Tx×List Tx)):Prop where
 nd:(us.map (·.1)).Nodup
 len:us.length<=200
 names:∀u∈us,u.1.length<=4294967296/\u.2.length<=1000000
 known:∀u∈us,∀g∈u.2,∃v∈us,v.1=g
theorem Seen.room (h:Seen w ms us S) (hu:UsOk us):S.length<=200:=by
 have:=jK h.nd h.sub;rw[be]at this;have:=hu.len;omega
theorem Bm {l:List Tx} (h:l[j]?=some g):(txs l)[j]?=some (.string ⟨g.toArray⟩):=by unfold txs;rw[aG,h];rfl
def rf (ms:Nat) (us:List (Tx×List Tx)) (u:Tx×List Tx) (S:List Tx) (w:World) (e:Ending) (w':World):Prop:=
 e=.returned (.tuple #[])/\Chg (·=ms) w w'/\∃S',Seen w' ms us S'/\Eb us S S'/\(∀g∈u.2,g∈S')/\∀x∈S',x∈S\/Rch us u.1 x
def RGL (ms:Nat) (us:List (Tx×List Tx)) (u:Tx×List Tx) (S:List Tx) (w:World) (j:Nat) (wr:World):Prop:=
 Chg (·=ms) w wr/\∃S',Seen wr ms us S'/\Eb us S S'/\(∀g∈u.2.take j,g∈S')/\∀x∈S',x∈S\/Rch us u.1 x
theorem Bj (us:List (Tx×List Tx)) (hU:UsOk us) (k mf mu B1 B2 B3 ms:Nat):∀(n:Nat) (w:World) (S:List Tx) (u:Tx×List Tx),u∈us->uf us S=n->RGS w k mf mu B1 B2 B3 ms us->Seen w ms us S ->
  Calls prog 226 #[.string ⟨u.1.toArray⟩,pB B1,pB B2,pB B3] w (rf ms us u S w):=by
 intro n
 induction n using Nat.strongRecOn with
 | _ n ih =>
 intro w S u hu hn hR hS;obtain⟨left,hk⟩:=hR.hk;obtain⟨ar,Lu,m1,m2⟩:=hR.uses;have E:=m2 u hu;obtain⟨ga,gn,gc,C⟩:=bD E;have r:gn=u.2.length:=gx E C;subst r;have c1:w.cell? ⟨B1,0,none⟩=some (pB k):=(ae hR.b1 0).trans rfl;have k1:w.cell? ⟨k,1,none⟩=some (mP mu):=(ae hk 1).trans rfl;have P:(Instr.lookup 279 (mP mu) (.string ⟨u.1.toArray⟩) false).run prog w=.ok (.slice ga u.2.length gc) w:=by
  have:=m1.look2 (t:=279) underlying279 (yj w) (hU.names u hu).1 false;rw[C]at this;exact this
 have aq:=(hU.names u hu).2;have ac:=aa ih;have L:=aa hu;have HN:=aa hn;have HR:=aa hR;have G:=aa E;have ab:=aa C;have X:=aa (show RGL ms us u S w 0 w from⟨Chg.refl _ _,S,hS,Eb.refl us S,by simp,λx F=>.inl F⟩);have W:=aa hS.map;clear hn hR hS hk m1 m2 E C ih hu
 go_enter func226,ntmps226
 go_wp2_with fail
 go_loopw [6,14] (λ_ s14 wr=>∃j:Nat,s14=.int .i64 j/\j<=u.2.length/\Hid (RGL ms us u S w j wr)) (λ_ s14 _=>match s14 with | .int _ j=>u.2.length-j.toNat|_=>0)
 case atStart=>exact⟨0,rfl,aV _,X⟩
 case round =>
  clear X c1 k1 P
  rename World=>w5
  obtain⟨j,rfl,hj,hr⟩:=hrel;obtain⟨A,s,a,d,f,a5⟩:=hr.out;have J:=aa a5;clear a5;clear hr;have HC:=aa A;have ao:=aa a;have ad:=aa d;have af:=aa f;have I:=aa (HR.chg A W.out);have al:=a.room hU
  by_cases hlt:j<u.2.length
  ·have c:w5.ownsRow 0 9 1 (.slice ga u.2.length gc) u.2.length (txs u.2):=by
    rw[<- ab.out];refine aY G.out A λg H e=>?_;subst e;obtain⟨ai,fr,hh⟩:=bG G.out H;obtain⟨D,⟨es,ah,hb,_⟩,_⟩:=W.out;rw[hb]at hh;injection hh with hh;cases hh
   obtain⟨T,y,m⟩:∃T y,(.slice ga u.2.length gc:Value)=.slice (some ⟨T,0,none⟩) u.2.length y:=by
    rcases c.2 with⟨_,h0⟩|⟨T,y,ai,m,_⟩
    ·omega
    ·exact⟨T,y,m⟩
   obtain⟨g,H⟩:∃g,u.2[j]?=some g:=⟨_,aw hlt⟩;have e0:w5.cell? ⟨T,j,none⟩=some (.string ⟨g.toArray⟩):=by
    rw[m]at c;rw[c.cellAt j (by omega),Bm H]
   have aj:ga=some ⟨T,0,none⟩:=by injection m
   obtain⟨v,p,o⟩:=hU.known u L.out g (aJ H);have B:=(hU.names v p).1;rw[o]at B;have d2:w5.cell? ⟨B2,0,none⟩=some (mP ms):=(ae I.b2 0).trans rfl;have d3:w5.cell? ⟨B3,0,none⟩=some (.func (.func 226) #[] #[pB B1,pB B2,pB B3]):=(ae I.b3 0).trans rfl;have a1:decide ((j:Int)<(u.2.length:Int))=true:=by simp;omega
   have a4:u.2.length-((j:Int)+1).toNat<u.2.length-(j:Int).toNat:=ee hlt;have O:wrap64 ((j:Int)+1)=(j:Int)+1:=fR _ (by omega);have a3:j+1<=u.2.length:=hlt;have b:u.2.take (j+1)=u.2.take j++[g]:=by
    obtain⟨h1,h2⟩:=aE.1 H;rw[iN h1,h2]
   have ag:=aa p;have V:=aa (aJ H);have Y:=aa o;have K:=aa b;have an:=aa O;subst aj
   by_cases hin:g∈s
   ·have P:(Instr.lookup 110 (mP ms) (.string ⟨g.toArray⟩) false).run prog w5=.ok (.int .i64 1) w5:=by
     have:=a.map.look2 (t:=110) underlying110 (ub w5) B false;rw[show nK s g=some (.int .i64 1) by unfold nK;rw[ax hin]]at this;exact this
    have q:=aa (show RGL ms us u S w (j+1) w5 from⟨A,s,a,d,by
     rw[b];intro x F;rcases aU.1 F with h|h
     ·exact f x h
     ·rw[aZ]at h;subst h;exact hin,J.out⟩)
    clear A a d f c m H p o b hin O;go_wp2_with fail;exact⟨⟨j+1,by simp,a3,q⟩,a4⟩
   ·have P:(Instr.lookup 110 (mP ms) (.string ⟨g.toArray⟩) false).run prog w5=.ok (.int .i64 0) w5:=by
     have:=a.map.look2 (t:=110) underlying110 (ub w5) B false;rw[show nK s g=none by unfold nK;rw[ap hin]]at this;exact this
    obtain⟨R,am,M,Z⟩:=a.map.put (t:=110) underlying110 (by unfold maxLen;omega) B (.int .i64 1);have N:Chg (·=ms) w5 R:=(Chg.refl _ _).grown Z (λi hi _=>(aT hi).symm);have r:g∈us.map (·.1):=bM.2 ⟨v,p,o⟩;have a7:Seen R ms us (g::s):=⟨by
     rw[show nK s g=none by unfold nK;rw[ap hin],yr]at M;exact M,oV.2 ⟨hin,a.nd⟩,λx F=>by
      rcases aR.1 F with rfl|h
      ·exact r
      ·exact a.sub x h⟩
    have Q:RGS R k mf mu B1 B2 B3 ms us:=I.chg N a.map;have f3:R.cell? ⟨B3,0,none⟩=some (.func (.func 226) #[] #[pB B1,pB B2,pB B3]):=(ae Q.b3 0).trans rfl;have HX:Hid (Calls prog 226 #[.string ⟨g.toArray⟩,pB B1,pB B2,pB B3] R (rf ms us v (g::s) R)):=by
     have:=ac.out (uf us (g::s)) (by rw[<- HN.out];exact wm d.1 r hin) R (g::s) v p rfl Q a7;rw[o]at this;exact this
    have a9:=aa (A.then N);clear A a d f c m H p o b hin O M Z N r a7 Q d3;go_wp2_with fail;refine HX.mono ?_;rintro e z ⟨rfl,a0,S2,a6,l,a2,a8⟩;have q:=aa (show RGL ms us u S w (j+1) z from⟨a9.then a0,S2,a6,Eb.more hU.nd ag.out ad.out (by rw[Y.out];exact l) a2,by
     rw[K.out];intro x F;rcases aU.1 F with h|h
     ·exact l.1 x (aP _ (af.out x h))
     ·rw[aZ]at h;subst h;exact l.1 x (aL ..),λx F=>by
     rcases a8 x F with h|h
     ·rcases aR.1 h with rfl|h
      ·exact .inr (.one L.out V.out)
      ·exact J.out x h
     ·rw[Y.out]at h;exact .inr ((Rch.one L.out V.out).step h)⟩)
    clear a0 a6 l a2 a8;go_wp2_with fail;exact⟨⟨j+1,by simp,a3,q⟩,a4⟩
  ·have ak:j=u.2.length:=by omega
   have a1:decide ((j:Int)<(u.2.length:Int))=false:=by simp;omega
   have U:=aa (show rf ms us u S w (.returned (.tuple #[])) w5 from⟨rfl,A,s,a,d,(by rw[ak,cg]at f;exact f),J.out⟩);clear A a d f;go_wp2_with fail;go_end0;exact U.out
theorem B0 (us:List (Tx×List Tx)) (hU:UsOk us) (w:World) (k mf mu left:Nat) (hk:w.heap[k]?=some (.cells #[mP mf,mP mu,.int .i64 left] 281 (0,0))) (huse:∃sz L,bz w mu L sz/\∀u∈us,w.ownsRow 0 9 1 ((L u.1).getD (.slice none 0 0)) u.2.length (txs u.2)) (u:Tx×List Tx) (hu:u∈us):
  Calls prog 184 #[pB k,.string ⟨u.1.toArray⟩] w (λe w'=>Below w.heap.size w w'/\∃b:Bool,e=.returned (.bool b)/\(b=true<->Rch us u.1 u.1)):=by
 have a1:=@run_makeMap prog;generalize s:w.alloc (.cells #[pB k] 277)=w1;generalize y:w1.alloc (.map #[] 0)=w2;generalize A:w2.alloc (.cells #[mP (w.heap.size+1)] 110)=w3;generalize B:w3.alloc (.cells #[.nilFunc] 137)=w4;generalize C:w4.setCell ⟨w.heap.size+1+1+1,0,none⟩ (.func (.func 226) #[] #[pB w.heap.size,pB (w.heap.size+1+1),pB (w.heap.size+1+1+1)])=w5;have z1:w1.heap.size=w.heap.size+1:=by rw[<- s];exact ah _ _
 have z2:w2.heap.size=w.heap.size+1+1:=by rw[<- y,ah,z1]
 have z3:w3.heap.size=w.heap.size+1+1+1:=by rw[<- A,ah,z2]
 have z4:w4.heap.size=w.heap.size+1+1+1+1:=by rw[<- B,ah,z3]
 have N:Below w.heap.size w w1:=by rw[<- s];exact az
 have G:Below w1.heap.size w1 w2:=by rw[<- y];exact az
 have O:Below w2.heap.size w2 w3:=by rw[<- A];exact az
 have H:Below w3.heap.size w3 w4:=by rw[<- B];exact az
 have b1:w4.heap[w.heap.size]?=some (.cells #[pB k] 277 (0,0)):=by
  rw[H.block _ (by omega),O.block _ (by omega),G.block _ (by omega),<- s];exact af _ _
 have b2:w4.heap[w.heap.size+1+1]?=some (.cells #[mP (w.heap.size+1)] 110 (0,0)):=by
  rw[H.block _ (by omega),<- A,<- z2];exact af _ _
 have M:w4.heap[w.heap.size+1+1+1]?=some (.cells #[.nilFunc] 137 (0,0)):=by
  rw[<- B,<- z3];exact af _ _
 have J:Below w.heap.size w w4:=N.trans ((G.trans ((O.trans (H.mono (by omega))).mono (by omega))).mono (by omega));have d:bz w4 (w.heap.size+1) (λ_=>none) 0:=by
  have h0:bz w2 w1.heap.size (λ_=>none) 0:=by rw[<- y];exact bz.made w1
  rw[z1]at h0;exact(h0.below O).below H
 have f3:w4.frozen? ⟨w.heap.size+1+1+1,0,none⟩=false:=aD w4 _ 0 _ _ M;have g3:w4.cell? ⟨w.heap.size+1+1+1,0,none⟩=some .nilFunc:=(ae M 0).trans rfl;have m:∀i,i≠w.heap.size+1+1+1->w5.heap[i]?=w4.heap[i]?:=λi g=>by rw[<- C];exact aM _ _ _ _ g
 have o:Chg (·=w.heap.size+1+1+1) w4 w5:=by rw[<- C];exact(Chg.refl (·=w.heap.size+1+1+1) w4).setCell (p:=⟨w.heap.size+1+1+1,0,none⟩) (λ_=>rfl) _
 have a:Below w.heap.size w w5:=by
  have c:=(Chg.of_below (S:=λi=>w.heap.size<=i) J).then (o.mono λi _ e=>by omega);exact⟨c.os,c.tape,c.output,c.size,λi g=>c.block i g (by omega)⟩
 have I:RGS w5 k mf mu w.heap.size (w.heap.size+1+1) (w.heap.size+1+1+1) (w.heap.size+1) us:=by
  obtain⟨Z,Lu,m1,m2⟩:=huse;have W:=ab hk;have a0:=m1.lt;refine⟨by rw[m _ (by omega)];exact b1,by rw[m _ (by omega)];exact b2,?_,⟨left,by rw[a.block _ W];exact hk⟩,⟨Z,Lu,m1.below a,λu hu=>?_⟩,by omega,by omega,by omega,by omega,by omega⟩
  ·rw[<- C];exact aA (j:=0) M _
  ·exact aY (m2 u hu) (Chg.of_below (S:=λ_=>False) a) λ_ _=>id
 have hS:Seen w5 (w.heap.size+1) us []:=⟨by
  have:=d.chg o (by omega);have hz:nK []=λ_=>none:=by funext t;simp[nK]
  rw[hz];exact this,Ee,λx h=>by cases h⟩
 have hX:=Bj us hU k mf mu w.heap.size (w.heap.size+1+1) (w.heap.size+1+1+1) (w.heap.size+1) _ w5 [] u hu rfl I hS;have c3:w5.cell? ⟨w.heap.size+1+1+1,0,none⟩=some (.func (.func 226) #[] #[pB w.heap.size,pB (w.heap.size+1+1),pB (w.heap.size+1+1+1)]):=(ae I.b3 0).trans rfl;have c2:w5.cell? ⟨w.heap.size+1+1,0,none⟩=some (mP (w.heap.size+1)):=(ae I.b2 0).trans rfl;have K:=(hU.names u hu).1;have HX:=aa hX;have P:=aa a;have HU:=aa hu;have D:=aa I.b2;clear hX a hu I hS m o J d b1 b2 M N G O H huse hk
 go_enter func184,ntmps184
 go_wp2_with fail;refine HX.mono ?_;rintro e z ⟨rfl,f,R,l,r,T,q⟩;have d2:z.cell? ⟨w.heap.size+1+1,0,none⟩=some (mP (w.heap.size+1)):=(gN z _ 0 _ _ _ ((f.block _ (ab D.out) (by omega)).trans D.out)).trans rfl;have n:Below w.heap.size w z:=by
  have c:=(Chg.of_below (S:=λi=>w.heap.size<=i) P.out).then (f.mono λi _ e=>by omega);exact⟨c.os,c.tape,c.output,c.size,λi g=>c.block i g (by omega)⟩
 have E:=aa n
 by_cases hin:u.1∈R
 ·have X:(Instr.lookup 110 (mP (w.heap.size+1)) (.string ⟨u.1.toArray⟩) false).run prog z=.ok (.int .i64 1) z:=by
   have:=l.map.look2 (t:=110) underlying110 (ub z) K false;rw[show nK R u.1=some (.int .i64 1) by unfold nK;rw[ax hin]]at this;exact this
  have F:=aa (show Rch us u.1 u.1 from(q u.1 hin).resolve_left (by simp));clear f l r T n hin c2 c3 q;go_wp2_with fail;go_ret;exact⟨E.out,true,rfl,λ_=>F.out,λ_=>rfl⟩
 ·have X:(Instr.lookup 110 (mP (w.heap.size+1)) (.string ⟨u.1.toArray⟩) false).run prog z=.ok (.int .i64 0) z:=by
   have:=l.map.look2 (t:=110) underlying110 (ub z) K false;rw[show nK R u.1=none by unfold nK;rw[ap hin]]at this;exact this
  have Q:=aa (show¬Rch us u.1 u.1 fromλh=>hin (ET r h λv hv e=>by
   have Y:v=u:=by
    obtain⟨i,g⟩:=fL.1 hv;obtain⟨j,V⟩:=fL.1 HU.out;have N:(us.map (·.1))[i]?=some v.1:=by rw[aG,g];rfl
    have G:(us.map (·.1))[j]?=some v.1:=by rw[aG,V,e];rfl
    have U:=(List.getElem?_inj (by rw[be];exact(aE.1 g).1) hU.nd).1 (N.trans G.symm);subst U;rw[g]at V;exact aT V
   subst Y;exact T))
  clear f l r T n hin c2 c3 q;go_wp2_with fail;go_ret;exact⟨E.out,false,rfl,(λh=>absurd h (by decide)),λh=>absurd h Q.out⟩
def rdy (u:Tx×List Tx) (P:List Tx):Bool:=u.2.all (λg=>P.contains g)&&!P.contains u.1
theorem Km (hg:g∈u.2) (hn:g ∉ P):rdy u P=false:=by
 unfold rdy;have:(u.2.all λg=>P.contains g)=false:=by
  rw[List.all_eq_false];exact⟨g,hg,by simpa using hn⟩
 rw[this];rfl
theorem Ip (h:∀g∈u.2,g∈P):rdy u P=!decide (u.1∈P):=by
 unfold rdy;have:(u.2.all λg=>P.contains g)=true:=by
  rw[fZ]
  exactλg hg=>by simpa using h g hg
 rw[this];simp
theorem uK (h:bz w ms (nK P) sz) (hg:g.length<=4294967296):(Instr.lookup 110 (mP ms) (.string ⟨g.toArray⟩) false).run prog w=.ok (.int .i64 (if g∈P then 1 else 0)) w:=by
 have:=h.look2 (t:=110) underlying110 (ub w) hg false;unfold nK at this
 by_cases hm:g∈P
 ·rw[ax hm]at this;rw[ax hm];exact this
 ·rw[ap hm]at this;rw[ap hm];exact this
structure ODS (w:World) (k mf mu B1 B2 ms:Nat) (us:List (Tx×List Tx)):Prop where
 b1:w.heap[B1]?=some (.cells #[pB k] 277 (0,0))
 b2:w.heap[B2]?=some (.cells #[mP ms] 110 (0,0))
 hk:∃left:Nat,w.heap[k]?=some (.cells #[mP mf,mP mu,.int .i64 left] 281 (0,0))
 uses:∃sz L,bz w mu L sz/\∀u∈us,w.ownsRow 0 9 1 ((L u.1).getD (.slice none 0 0)) u.2.length (txs u.2)
theorem ODS.below (h:ODS w k mf mu B1 B2 ms us) (hb:Below w.heap.size w w'):ODS w' k mf mu B1 B2 ms us:=by
 obtain⟨left,b⟩:=h.hk;obtain⟨a,c,d,e⟩:=h.uses;exact⟨by rw[hb.block _ (ab h.b1)];exact h.b1,by rw[hb.block _ (ab h.b2)];exact h.b2,⟨left,by rw[hb.block _ (ab b)];exact b⟩,⟨a,c,d.below hb,λu hu=>aY (e u hu) (Chg.of_below (S:=λ_=>False) hb) λ_ _=>id⟩⟩
theorem B6 (us:List (Tx×List Tx)) (hU:UsOk us) (k mf mu B1 B2 ms:Nat) (w:World) (hO:ODS w k mf mu B1 B2 ms us) (P:List Tx) (szp:Nat) (hP:bz w ms (nK P) szp) (u:Tx×List Tx) (hu:u∈us) (fb:Nat) (hf0:w.cell? ⟨fb,0,none⟩=some (.string ⟨u.1.toArray⟩)):
  Calls prog 224 #[pB fb,pB B1,pB B2] w (λe w'=>e=.returned (.bool (rdy u P))/\Below w.heap.size w w'):=by
 obtain⟨left,M⟩:=hO.hk;obtain⟨a4,Lu,m1,m2⟩:=hO.uses;have y:=m2 u hu;obtain⟨H,gn,R,s⟩:=bD y;have X:gn=u.2.length:=gx y s;subst X;have c1:w.cell? ⟨B1,0,none⟩=some (pB k):=(ae hO.b1 0).trans rfl;have k1:w.cell? ⟨k,1,none⟩=some (mP mu):=(ae M 1).trans rfl;have d:∀q,(Instr.lookup 279 (mP mu) (.string ⟨u.1.toArray⟩) false).run prog (w.drewN q)=.ok (.slice H u.2.length R) (w.drewN q):=λq=>by
  have b:Below w.heap.size w (w.drewN q):=⟨rfl,rfl,rfl,ag _,λk M=>rfl⟩;have:=(m1.below b).look2 (t:=279) underlying279 (yj (w.drewN q)) (hU.names u hu).1 false;rw[s]at this;exact this
 have a3:=(hU.names u hu).2;have Q:=(hU.names u hu).1;have l:w.ownsRow 0 9 1 (.slice H u.2.length R) u.2.length (txs u.2):=by rw[<- s];exact y
 have a:Hid (∀q,Below w.heap.size w (w.drewN q)/\ODS (w.drewN q) k mf mu B1 B2 ms us/\bz (w.drewN q) ms (nK P) szp/\(w.drewN q).ownsRow 0 9 1 (.slice H u.2.length R) u.2.length (txs u.2)/\(w.drewN q).cell? ⟨fb,0,none⟩=some (.string ⟨u.1.toArray⟩)):=λq=>by
  have b:Below w.heap.size w (w.drewN q):=⟨rfl,rfl,rfl,ag _,λk M=>rfl⟩;exact⟨b,hO.below b,hP.below b,aY l (Chg.of_below (S:=λ_=>False) b) λ_ _=>id,hf0⟩
 have U:=aa hu;clear M m1 m2 y hO hP hu s l
 go_enter func224,ntmps224
 go_wp2_with fail
 go_quiet (fail)
 obtain⟨I,N,O,m,V⟩:=a.out nq;clear a c1 k1 d hf0;have o:=aa I;have E:=aa N;have A:=aa O;have c:=aa m;clear I N O m;generalize w.drewN nq=w1 at o E A c V;go_wp2_with fail
 go_loopw [6,17] (λ_ s17 wr=>∃j:Nat,s17=.int .i64 j/\j<=u.2.length/\wr=w1/\Hid (∀g∈u.2.take j,g∈P)) (λ_ s17 _=>match s17 with | .int _ j=>u.2.length-j.toNat|_=>0)
 case atStart=>exact⟨0,rfl,aV _,rfl,aa (by simp)⟩
 case round =>
  obtain⟨j,rfl,hj,rfl,n⟩:=hrel;have d2:wr.cell? ⟨B2,0,none⟩=some (mP ms):=(ae E.b2 0).trans rfl
  by_cases hlt:j<u.2.length
  ·obtain⟨D,p,i⟩:∃D p,(.slice H u.2.length R:Value)=.slice (some ⟨D,0,none⟩) u.2.length p:=by
    rcases c.out.2 with⟨_,h0⟩|⟨D,p,a2,i,_⟩
    ·omega
    ·exact⟨D,p,i⟩
   obtain⟨g,K⟩:∃g,u.2[j]?=some g:=⟨_,aw hlt⟩;have e0:wr.cell? ⟨D,j,none⟩=some (.string ⟨g.toArray⟩):=by
    have z:=c.out;rw[i]at z;rw[z.cellAt j (by omega),Bm K]
   have W:H=some ⟨D,0,none⟩:=by injection i
   have r:=aJ K;obtain⟨v,C,B⟩:=hU.known u U.out g r;have L:=(hU.names v C).1;rw[B]at L;have d:=uK A.out L;have J:decide ((j:Int)<(u.2.length:Int))=true:=by simp;omega
   have a1:u.2.length-((j:Int)+1).toNat<u.2.length-(j:Int).toNat:=ee hlt;have a0:wrap64 ((j:Int)+1)=(j:Int)+1:=fR _ (by omega);have Y:j+1<=u.2.length:=hlt;have f:u.2.take (j+1)=u.2.take j++[g]:=by
    obtain⟨h1,h2⟩:=aE.1 K;rw[iN h1,h2]
   subst W
   by_cases hin:g∈P
   ·rw[ax hin]at d
    have G:Hid (∀x∈u.2.take (j+1),x∈P):=aa (by
     rw[f];intro x hx;rcases aU.1 hx with h|h
     ·exact n.out x h
     ·rw[aZ]at h;subst h;exact hin)
    clear f C B r K hin i n;go_wp2_with fail;exact⟨⟨j+1,by simp,Y,trivial,G⟩,a1⟩
   ·rw[ap hin]at d
    have T:=aa (Km r hin);clear f C B r K hin i n a0;go_wp2_with fail;go_ret;exact⟨by rw[T.out];rfl,o.out⟩
  ·have Z:j=u.2.length:=by omega
   have J:decide ((j:Int)<(u.2.length:Int))=false:=by simp;omega
   have F:=aa (Ip (u:=u) (P:=P) (by have:=n.out;rw[Z,cg]at this;exact this));have a:Hid (∀q,Below w.heap.size w (wr.drewN q)/\(Instr.lookup 110 (mP ms) (.string ⟨u.1.toArray⟩) false).run prog (wr.drewN q)=.ok (.int .i64 (if u.1∈P then 1 else 0)) (wr.drewN q)):=λq=>by
    have b:Below wr.heap.size wr (wr.drewN q):=⟨rfl,rfl,rfl,ag _,λk M=>rfl⟩;exact⟨o.trans (b.mono o.size),uK (A.below b) Q⟩
   have d:∀q,(Instr.lookup 110 (mP ms) (.string ⟨u.1.toArray⟩) false).run prog (wr.drewN q)=.ok (.int .i64 (if u.1∈P then 1 else 0)) (wr.drewN q):=λq=>(a.out q).2;clear n
   by_cases hin:u.1∈P
   ·simp only[ax hin]at d
    go_wp2_with fail
    go_quiet (fail)
    go_wp2_with fail;go_ret;exact⟨by rw[F.out,dr hin];rfl,(a.out _).1⟩
   ·simp only[ap hin]at d
    go_wp2_with fail
    go_quiet (fail)
    go_wp2_with fail;go_ret;exact⟨by rw[F.out,iV hin];rfl,(a.out _).1⟩
end Go.Proofs.YtbeaaimcpkogcaaGreatDoor
