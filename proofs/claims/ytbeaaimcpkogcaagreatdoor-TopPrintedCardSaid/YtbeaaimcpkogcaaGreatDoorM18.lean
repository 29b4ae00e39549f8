/- Lemmas on the way to the claim. -/
import Derived.Lib.ItoaNum
import Derived.Test.YtbeaaimcpkogcaaGreatDoorM13
set_option linter.unusedSimpArgs false
set_option linter.unusedVariables false
namespace Go.Proofs.YtbeaaimcpkogcaaGreatDoor
variable {r x:Ex} {k rest s w:Tx} {l:List Tok} {c:Int} {d n:Nat} {t:Tok} {u:UInt8}
theorem Ev.two {α β γ:Type} {f:Nat->Option α} {g:Nat->Option β} {h:Nat->Option γ} {r:α} {q:β} {s:γ} (hf:Ev f r) (hg:Ev g q) (hh:∀n,f n=some r->g n=some q->h (n+1)=some s):Ev h s:=by
 obtain⟨N,b⟩:=hf;obtain⟨M,a⟩:=hg;refine⟨max N M+1,λn hn=>?_⟩;obtain⟨m,rfl⟩:∃m,n=m+1:=⟨n-1,by omega⟩;exact hh m (b m (by omega)) (a m (by omega))
theorem Ev.step1 {β:Type} {g:Nat->Option β} {q:β} (hg:∀n,g (n+1)=some q):Ev g q:=⟨1,λn hn=>by obtain⟨m,rfl⟩:∃m,n=m+1:=⟨n-1,by omega⟩;exact hg m⟩
theorem fX (t:Tok) (l:List Tok) (d:Nat):hd ⟨t::l,d⟩=t:=rfl
theorem cT (t:Tok) (l:List Tok) (d:Nat) (h:l≠[]):aS ⟨t::l,d⟩=⟨l,d⟩:=by
 unfold aS;rw[ax (by have:=bc.2 h;simp;omega)];rfl
theorem FF (w:Tx) (t:Tok) (l:List Tok) (d:Nat):isW w ⟨t::l,d⟩=((decide (t.kind=4)||decide (t.kind=3))&&decide (t.text=w)):=rfl
theorem tm (w t:Tx) (l:List Tok) (d:Nat):isW w ⟨tS t::l,d⟩=decide (t=w):=by rw[FF];rfl
theorem eZ (t:Tx) (l:List Tok) (d:Nat) (h:l≠[]):bP t ⟨tS t::l,d⟩=some ⟨l,d⟩:=by
 unfold bP;rw[tm,dr rfl,ax rfl,cT _ _ _ h]
theorem mT {α:Type} (t:Tx) (l:List Tok) (d:Nat) (h:l≠[]) (hd:d<64) (k:PS->Option (α×PS)) (r:α) (s2:PS) (hk:k ⟨l,d+1⟩=some (r,s2)):inW t ⟨tS t::l,d⟩ k=some (r,⟨s2.ts,s2.d-1⟩):=by
 unfold inW;rw[ap (by show¬(_/\64<=d);omega),eZ _ _ _ h,aj,hk];rfl
theorem dh (w:Tx) (t:Tok) (l:List Tok) (d:Nat):isW w ⟨t::l,d⟩=isT w t:=rfl
def Beg (t:Tok):Prop:=t.kind=1\/t.kind=2\/t=tS cD\/t=tS rC\/t=tS g9\/t=tK ri\/t=tK wIn
theorem sP {b:Bool} (h:∃t r,l=t::r/\Beg t):∃t r,par b l=t::r/\Beg t:=by
 unfold par;split
 ·exact⟨_,_,rfl,.inr (.inr (.inl rfl))⟩
 ·exact h
theorem io:∀{x:Ex},ExP x->∃t r,co x=t::r/\Beg t
 | .num n,_=>by rw[co];exact⟨_,_,rfl,.inr (.inl rfl)⟩
 | .name s,_=>by rw[co];exact⟨_,_,rfl,.inl rfl⟩
 | .un t r,h=>by
  unfold ExP at h;rw[co];refine⟨_,_,rfl,?_⟩;rcases h.1 with rfl|rfl
  ·exact .inr (.inr (.inr (.inl rfl)))
  ·exact .inr (.inr (.inr (.inr (.inl rfl))))
 | .bin t l r,h=>by
  unfold ExP at h;rw[co];obtain⟨a,q,e,c⟩:=sP (b:=decide (lvl l<binds t)) (io h.2.1);unfold uD;rw[e];exact⟨a,_,rfl,c⟩
 | .call s args,_=>by rw[co];exact⟨_,_,rfl,.inl rfl⟩
 | .cell l r,h=>by
  unfold ExP at h;rw[co];obtain⟨a,q,e,c⟩:=sP (b:=decide (lvl l<8)) (io h.1);unfold uD;rw[e];exact⟨a,_,rfl,c⟩
 | .link l r,h=>by
  unfold ExP at h;rw[co];obtain⟨a,q,e,c⟩:=sP (b:=decide (lvl l<8)) (io h.1);unfold uD;rw[e];exact⟨a,_,rfl,c⟩
 | .new l,_=>by rw[co];exact⟨_,_,rfl,.inr (.inr (.inr (.inr (.inr (.inl rfl)))))⟩
 | .inp,_=>by rw[co];exact⟨_,_,rfl,.inr (.inr (.inr (.inr (.inr (.inr rfl)))))⟩
theorem oM (h:ExP x) (c:Int):∃t r,exK x c=t::r/\Beg t:=sP (io h)
theorem qY (h:c<=lvl x):exK x c=co x:=by unfold exK uD par;rw[iV (by omega)];simp
theorem vz (h:lvl x<c):exK x c=tS cD::(co x++[tS bR]):=by unfold exK uD par;rw[dr h];simp
theorem oE {rest:List Tok} (h:Nb rest):Ev (λn=>gT n x ⟨rest,d⟩) (x,⟨rest,d⟩):=by
 obtain⟨t,r,rfl,a,b,_⟩:=h;refine Ev.step1 λn=>?_;rw[gT,dh,a,dh,b];rfl
theorem l7 {rest:List Tok} (hn:rest≠[]) (h:Stp c rest):Ev (λn=>ib n c x ⟨rest,d⟩) (x,⟨rest,d⟩):=by
 obtain⟨t,r,rfl⟩:=List.exists_cons_of_ne_nil hn;refine Ev.step1 λn=>?_;rw[ib,ax]
 by_cases hk:t.kind=3
 ·exact .inr (h t r rfl hk)
 ·exact .inl hk
theorem Ih {t:Tx} (h:binds t≠0):t≠ss/\t≠jo/\t≠cD/\t≠bR/\t≠A4/\t≠fy/\t≠bU:=by
 refine⟨?_,?_,?_,?_,?_,?_,?_⟩<;>(intro e;subst e;exact h (by decide))
theorem oY {r:Ex×PS} (h1:isW rC ⟨l,d⟩=false) (h2:isW g9 ⟨l,d⟩=false) (h:Ev (λn=>fU n ⟨l,d⟩) r):Ev (λn=>gl n ⟨l,d⟩) r:=by
 refine h.succ λn hn=>?_;rw[gl,ap (by rw[h1,h2];simp)];exact hn
theorem oz {w1 w2:Tx} {rest:List Tok} (hx:ExP x) (h:PX x) (hd:d+1+gC x<=64) (hr:rest≠[]) (hw:Nb (tS w2::rest)) (hw2:binds w2=0):Ev (λn=>eS n w1 w2 ⟨tS w1::(co x++tS w2::rest),d⟩) (x,⟨rest,d⟩):=by
 have a:Stp 1 (tS w2::rest):=λt r e hk=>by injection e with e1 _;subst e1;exact .inl hw2
 have b:=h.b 1 1 (tS w2::rest) (d+1) (x,⟨tS w2::rest,d+1⟩) (by omega) (by omega) (by omega) hw (a.lo (by omega)) (by rw[kQ hx];exact hd) (l7 (by simp) a);rw[qY (gU hx)]at b;refine b.succ λn hn=>?_;rw[eS];have:=mT w1 (co x++tS w2::rest) d (by simp) (by omega) (λs1=>(cZ n 1 s1).bind λr=>(bP w2 r.2).bind λs2=>some (r.1,s2)) x ⟨rest,d+1⟩ (by
  show(cZ n 1 ⟨co x++tS w2::rest,d+1⟩).bind _=_;rw[hn,aj,eZ _ _ _ hr];rfl)
 exact this
theorem sV (h:w=bR\/w=A4) (rest:List Tok):Nb (tS w::rest):=⟨_,_,rfl,by rcases h with rfl|rfl<;>decide,by rcases h with rfl|rfl<;>decide,by rcases h with rfl|rfl<;>decide⟩
theorem ly {rest:List Tok} {r:Ex×PS} (h1:isW ri ⟨l,d⟩=false) (h2:isW wIn ⟨l,d⟩=false) (ha:Ev (λn=>dN n ⟨l,d⟩) (x,⟨rest,d⟩)) (hn:No rest) (h:Ev (λn=>gT n x ⟨rest,d⟩) r):Ev (λn=>fU n ⟨l,d⟩) r:=by
 obtain⟨t,q,rfl,b⟩:=hn;have a:Ev (λn=>dG n ⟨l,d⟩) (x,⟨t::q,d⟩):=ha.succ λn hn=>by
  rw[dG,h1,h2];simp only[bl,gy];rw[hn,aj,ap];rw[dh,b];simp
 exact a.two h λn e1 e2=>by rw[fU,e1,aj];exact e2
theorem F6 (h:Beg t) (l:List Tok) (d:Nat) (hn:t≠tS rC) (hm:t≠tS g9):isW rC ⟨t::l,d⟩=false/\isW g9 ⟨t::l,d⟩=false:=by
 rw[dh,dh];unfold isT;rcases h with h|h|rfl|rfl|rfl|rfl|rfl
 ·simp[h]
 ·simp[h]
 ·decide
 ·exact absurd rfl hn
 ·exact absurd rfl hm
 ·decide
 ·decide
theorem ME (hs:∀(rest:List Tok) (d:Nat),Nb rest->d+lc x 7<=64->Ev (λn=>gl n ⟨exK x 7++rest,d⟩) (x,⟨rest,d⟩)) (c m:Int) (rest:List Tok) (d:Nat) (r:Ex×PS) (he:exK x m=exK x 7) (hde:lc x 7<=lc x m) (hn:Nb rest) (hd:d+lc x m<=64) (h:Ev (λn=>ib n c x ⟨rest,d⟩) r):Ev (λn=>cZ n c ⟨exK x m++rest,d⟩) r:=by
 rw[he];exact(hs rest d hn (by omega)).two h λn e1 e2=>by rw[cZ,e1,aj];exact e2
theorem mO (hx:ExP x) (hl:lvl x=8) (hb:∀t r,co x=t::r->t≠tS rC/\t≠tS g9)
 (ha:∀(rest:List Tok) (d:Nat) (r:Ex×PS),No rest->d+gC x<=64->Ev (λn=>gT n x ⟨rest,d⟩) r->Ev (λn=>fU n ⟨co x++rest,d⟩) r):PX x:=by
 have b:∀c:Int,c<=8->exK x c=co x:=λc hc=>qY (by omega);have a:∀c:Int,c<=8->lc x c=gC x:=λc hc=>jO (by omega);have i:∀(rest:List Tok) (d:Nat),Nb rest->d+lc x 7<=64->Ev (λn=>gl n ⟨exK x 7++rest,d⟩) (x,⟨rest,d⟩):=by
  intro rest d hn hd;rw[b 7 (by omega)];rw[a 7 (by omega)]at hd;obtain⟨t,r,e,f⟩:=io hx;obtain⟨j,k⟩:=hb t r e;have g:=F6 f (r++rest) d j k;refine oY ?_ ?_ (ha rest d _ hn.no hd (oE hn))
  ·rw[e];exact g.1
  ·rw[e];exact g.2
 refine⟨λrest d r hn hd h=>?_,i,λc m rest d r h1 h2 h3 hn hlo hd h=>?_⟩
 ·rw[b 8 (by omega)]
  rw[a 8 (by omega)]at hd;exact ha rest d r hn hd h
 ·exact ME i c m rest d r (by rw[b m (by omega),b 7 (by omega)]) (by rw[a m (by omega),a 7 (by omega)];exact ag _) hn hd h
theorem Gw (hx:ExP x) (hl:lvl x<=7) (h7:lvl x=7->∀(rest:List Tok) (d:Nat),Nb rest->d+gC x<=64->Ev (λn=>gl n ⟨co x++rest,d⟩) (x,⟨rest,d⟩))
 (hb:∀(c:Int) (rest:List Tok) (d:Nat) (r:Ex×PS),1<=c->c<=lvl x->Nb rest->Lo (lvl x) rest->d+gC x<=64->Ev (λn=>ib n c x ⟨rest,d⟩) r->Ev (λn=>cZ n c ⟨co x++rest,d⟩) r):PX x:=by
 have g:∀(i a:Tx) (rest:List Tok) (d:Nat),d+1+gC x<=64->rest≠[]->(a=bR\/a=A4)->binds a=0->Ev (λn=>eS n i a ⟨tS i::(co x++tS a::rest),d⟩) (x,⟨rest,d⟩):=by
  intro i a rest d hd s u l;have k:Stp 1 (tS a::rest):=λt r e hk=>by injection e with e1 _;subst e1;exact .inl l
  have f:Lo (lvl x) (tS a::rest):=λt r e hk=>by injection e with e1 _;subst e1;have:=gU hx;show binds a<=_;omega
  have j:=hb 1 (tS a::rest) (d+1) (x,⟨tS a::rest,d+1⟩) (by omega) (gU hx) (sV u _) f hd (l7 (by simp) k);refine j.succ λn hn=>?_;rw[eS];exact mT i (co x++tS a::rest) d (by simp) (by omega) (λs1=>(cZ n 1 s1).bind λr=>(bP a r.2).bind λs2=>some (r.1,s2)) x ⟨rest,d+1⟩ (by
   show(cZ n 1 ⟨co x++tS a::rest,d+1⟩).bind _=_;rw[hn,aj,eZ _ _ _ s];rfl)
 have o:∀(rest:List Tok) (d:Nat) (r:Ex×PS),No rest->d+1+gC x<=64->Ev (λn=>gT n x ⟨rest,d⟩) r->Ev (λn=>fU n ⟨tS cD::(co x++tS bR::rest),d⟩) r:=by
  intro rest d r hn hd h;refine ly (by rw[dh];decide) (by rw[dh];decide) ?_ hn h;exact(g cD bR rest d hd hn.ne (.inl rfl) (by decide)).succ λn e=>by
   rw[dN,dh,show isT cD (tS cD)=true from by decide,ax rfl];exact e
 have p:∀(rest:List Tok) (d:Nat),Nb rest->d+lc x 7<=64->Ev (λn=>gl n ⟨exK x 7++rest,d⟩) (x,⟨rest,d⟩):=by
  intro rest d hn hd
  by_cases h:lvl x=7
  ·rw[qY (by omega)]
   rw[jO (by omega)]at hd;exact h7 h rest d hn hd
  ·rw[vz (by omega)]
   have b:d+1+gC x<=64:=by unfold lc up at hd;rw[ax (by omega)]at hd;omega
   have:=o rest d _ hn.no b (oE hn);have e:(tS cD::(co x++[tS bR]))++rest=tS cD::(co x++tS bR::rest):=by simp
   rw[e];exact oY (by rw[dh];decide) (by rw[dh];decide) this
 refine⟨λrest d r hn hd h=>?_,p,λc m rest d r j h2 h3 hn f hd h=>?_⟩
 ·rw[vz (by omega)]
  have b:d+1+gC x<=64:=by unfold lc up at hd;rw[ax (by omega)]at hd;omega
  have e:(tS cD::(co x++[tS bR]))++rest=tS cD::(co x++tS bR::rest):=by simp
  rw[e];exact o rest d r hn b h
 ·by_cases hm:m<=lvl x
  ·rw[qY hm]
   rw[jO hm]at hd;exact hb c rest d r j (by omega) hn (λt q e hk=>by have:=f t q e hk;omega) hd h
  ·refine ME p c m rest d r ?_ ?_ hn hd h
   ·rw[vz (by omega),vz (by omega)]
   ·unfold lc up;rw[ax (by omega),ax (by omega)];exact ag _
theorem LT {t:Tx} (hx:ExP (.un t r)) (h:PX r):PX (.un t r):=by
 have g:=hx;unfold ExP at g;have f:∀(b:List Tok) (d:Nat),Nb b->d+gC (.un t r)<=64->Ev (λn=>gl n ⟨co (.un t r)++b,d⟩) (.un t r,⟨b,d⟩):=by
  intro b d hn hd;rw[gC]at hd;have j:d+1+lc r 7<=64:=by unfold lc;omega
  have k:=h.s b (d+1) hn j;refine k.succ λn e=>?_;rw[co];show gl (n+1) ⟨tS t::(exK r 7++b),d⟩=_;rw[gl,tm,tm,ax (by rcases g.1 with rfl|rfl<;>decide)]
  rw[fX,mT t (exK r 7++b) d (by obtain⟨a,q,i,_⟩:=oM g.2 7;rw[i];simp) (by omega) _ r ⟨b,d+1⟩ e];rfl
 refine Gw hx (by show(7:Int)<=7;omega) (λ_=>f) λc b d q k h2 hn _ hd hl=>?_;exact(f b d hn hd).two hl λn i e2=>by rw[cZ,i,aj];exact e2
theorem Kq {t:Tx} {l:Ex} (hx:ExP (.bin t l r)) (hl:PX l) (hr:PX r):PX (.bin t l r):=by
 have f:=hx;unfold ExP at f;have v:=kT t;have g:=Ih f.1;refine Gw hx (by show binds t<=7;omega) (λh=>absurd h (by show¬binds t=7;omega)) λc rest d q h1 h2 hn hlo hd hlp=>?_;have k:c<=binds t:=h2;rw[gC]at hd;have m:d+lc l (binds t)<=64:=by unfold lc;omega
 have o:d+lc r (binds t+1)<=64:=by unfold lc;omega
 rw[co];have e:(uD l (binds t) (co l)++tS t::uD r (binds t+1) (co r))++rest=exK l (binds t)++(tS t::(exK r (binds t+1)++rest)):=by unfold exK;simp
 rw[e];have p:Nb (tS t::(exK r (binds t+1)++rest)):=⟨_,_,rfl,by unfold isT;simp[g.1],by unfold isT;simp[g.2.1],by unfold isT;simp[g.2.2.1]⟩;refine hl.b c (binds t) _ d q h1 k (by omega) p (λa b e hk=>by injection e with e1 _;subst e1;exact Int.le_refl _) m ?_;have i:Lo (binds t) rest:=hlo;have j:Stp (binds t+1) rest:=λa b e hk=>.inr (by have:=i a b e hk;omega);have s:=hr.b (binds t+1) (binds t+1) rest d (r,⟨rest,d⟩) (by omega) (by omega) (by omega) hn (j.lo (by omega)) o (l7 hn.ne j);refine s.two hlp λn e1 e2=>?_;rw[ib,ap (by rw[fX];show¬((3:Int)≠3\/binds t=0\/binds t<c);have:=f.1;omega)];rw[fX,cT _ _ _ (by obtain⟨a,b,u,_⟩:=oM f.2.2 (binds t+1);rw[u];simp)];show(cZ n (binds t+1) ⟨exK r (binds t+1)++rest,d⟩).bind _=_;rw[e1,aj];exact e2
def xO (n:Nat) (u:UInt8):Nat:=n*10+(u.toNat-48)
theorem DI {k:Nat} (h:k<10):(UInt8.ofNat (48+k)).toNat=48+k:=by
 show(48+k)%256=48+k;omega
theorem Jr:∀(f n:Nat) (acc:Tx),0<f->n<10^f->∃D:Tx,FX f n acc=D++acc/\D≠[]/\(∀k,D.foldl xO k=k*10^D.length+n)/\(∀u∈D,48<=u.toNat/\u.toNat<=57)/\D.length<=f/\((∃u r,D=u::r/\u.toNat≠48)\/D.length=1):=by
 intro f
 induction f with
 | zero=>intro n acc b;omega
 | succ f ih =>
  intro n acc _ h;rw[FX]
  by_cases h10:n<10
  ·rw[ax h10]
   have e:=DI h10;refine⟨[UInt8.ofNat (48+n)],rfl,by simp,λk=>?_,λu a=>?_,by simp,.inr rfl⟩
   ·show xO k _=_
    unfold xO;rw[e];simp
   ·rw[aZ]at a;subst a;omega
  ·rw[ap h10]
   have d:0<f:=by
    rcases Nat.eq_zero_or_pos f with b|b
    ·subst b;simp at h;omega
    ·exact b
   obtain⟨D,j,p,c,l,q,m⟩:=ih (n/10) (UInt8.ofNat (48+n%10)::acc) d (by rw[Nat.pow_succ]at h;omega);have e:=DI (show n%10<10 by omega);refine⟨D++[UInt8.ofNat (48+n%10)],by rw[j];simp,by simp,λk=>?_,λu a=>?_,by simp;omega,?_⟩
   ·rw[List.foldl_append,c,ac]
    show xO _ _=_;unfold xO;rw[e,My,Nat.pow_succ];have:k*(10^D.length*10)=k*10^D.length*10:=by rw[Nat.mul_assoc]
    rw[this];omega
   ·rcases aU.1 a with a|a
    ·exact l u a
    ·rw[aZ]at a;subst a;omega
   ·left
    rcases m with⟨u,r,g,i⟩|o
    ·exact⟨u,r++[UInt8.ofNat (48+n%10)],by rw[g];rfl,i⟩
    ·match D,o,c with
     | [u],_,c =>
      refine⟨u,_,rfl,λe0=>?_⟩;have:=c 0;simp[xO,e0]at this;omega
theorem pT (h:n<=4294967295):tY (ru n)=n/\ru n≠[]/\(∀u∈ru n,48<=u.toNat/\u.toNat<=57)/\(ru n).length<=20/\((∃u r,ru n=u::r/\u.toNat≠48)\/(ru n).length=1):=by
 obtain⟨D,a,b,c,d,e,f⟩:=Jr 20 n [] (by omega) (by omega);rw[bo]at a;unfold ru;rw[a];refine⟨?_,b,d,e,f⟩;have:=c 0;show D.foldl xO 0=n;rw[this];omega
theorem nR (w s:Tx):isT w ⟨1,s⟩=false:=by unfold isT;simp
theorem xm (w s:Tx):isT w ⟨2,s⟩=false:=by unfold isT;simp
theorem Iq (hx:ExP (.name s)):PX (.name s):=by
 refine mO hx rfl (λt r e=>by rw[co]at e;injection e with e _;subst e;exact⟨(by intro h;injection h with h _;cases h),(by intro h;injection h with h _;cases h)⟩) λrest d r hn hd h=>?_;rw[co];have a:∀w,isW w ⟨⟨1,s⟩::rest,d⟩=false:=λw=>nR w s;refine ly (a _) (a _) ?_ hn h;refine Ev.step1 λn=>?_;show dN (n+1) ⟨⟨1,s⟩::rest,d⟩=_;rw[dN,a,ap (by decide),ap (by rw[fX];show¬(1:Int)=2;decide)];unfold cR;rw[fX,ax rfl,cT _ _ _ hn.ne];rfl
theorem Kn {m:Nat} (hx:ExP (.num m)):PX (.num m):=by
 have b:m<=4294967295:=by unfold ExP at hx;exact hx
 refine mO hx rfl (λt r e=>by rw[co]at e;injection e with e _;subst e;exact⟨(by intro h;injection h with h _;cases h),(by intro h;injection h with h _;cases h)⟩) λrest d r hn hd h=>?_;rw[co];have a:∀w,isW w ⟨⟨2,ru m⟩::rest,d⟩=false:=λw=>xm w _;refine ly (a _) (a _) ?_ hn h;refine Ev.step1 λn=>?_;show dN (n+1) ⟨⟨2,ru m⟩::rest,d⟩=_;rw[dN,a,ap (by decide),ax (by rw[fX]),fX,cT _ _ _ hn.ne,(pT b).1]
theorem JE (hx:ExP r) (h:PX r) (rest:List Tok) (d:Nat) (hn:rest≠[]) (hd:(if gh r=true then d else d+1+gC r)<=64):
  Ev (λn=>dN n ⟨(if gh r=true then co r else tS cD::(co r++[tS bR]))++rest,d⟩) (r,⟨rest,d⟩):=by
 by_cases ha:gh r=true
 ·rw[ax ha]
  cases r with
  | num m =>
   have a:m<=4294967295:=by unfold ExP at hx;exact hx
   rw[co];refine Ev.step1 λn=>?_;show dN (n+1) ⟨⟨2,ru m⟩::rest,d⟩=_;rw[dN,dh,xm,ap (by decide),ax (by rw[fX]),fX,cT _ _ _ hn,(pT a).1]
  | name s =>
   rw[co];refine Ev.step1 λn=>?_;show dN (n+1) ⟨⟨1,s⟩::rest,d⟩=_;rw[dN,dh,nR,ap (by decide),ap (by rw[fX];show¬(1:Int)=2;decide)];unfold cR;rw[fX,ax rfl,cT _ _ _ hn];rfl
  | _=>simp[gh]at ha
 ·rw[ap ha]
  rw[ap ha]at hd;have e:(tS cD::(co r++[tS bR]))++rest=tS cD::(co r++tS bR::rest):=by simp
  rw[e];exact(oz (w1:=cD) (w2:=bR) hx h hd hn (sV (.inl rfl) _) (by decide)).succ λn e=>by
   rw[dN,dh,show isT cD (tS cD)=true from by decide,ax rfl];exact e
theorem Is {l:Ex} (hx:ExP (.cell l r)) (hl:PX l) (hr:PX r) (hl0:∀t q,exK l 8=t::q->t≠tS rC/\t≠tS g9):PX (.cell l r):=by
 have c:=hx;unfold ExP at c;refine mO hx rfl (λt q e=>?_) λrest d q hn hd h=>?_
 ·rw[co]at e
  obtain⟨a,b,f,_⟩:=oM c.1 8;have g:exK l 8++(tS ss::(co r++[tS A4]))=t::q:=e;rw[f]at g;injection g with e4 _;subst e4;exact hl0 _ _ f
 ·rw[gC]at hd
  rw[co];have e:(uD l 8 (co l)++tS ss::(co r++[tS A4]))++rest=exK l 8++(tS ss::(co r++tS A4::rest)):=by unfold exK;simp
  rw[e];refine hl.a _ d q ⟨_,_,rfl,by decide⟩ (by unfold lc;omega) ?_;have i:=oz (w1:=ss) (w2:=A4) (d:=d) c.2 hr (by omega) hn.ne (sV (.inr rfl) _) (by decide);refine i.two h λn e1 f=>?_;rw[gT,dh,show isT ss (tS ss)=true from by decide,ax rfl,e1,aj];exact f
theorem Ir {l:Ex} (hx:ExP (.link l r)) (hl:PX l) (hr:PX r) (hl0:∀t q,exK l 8=t::q->t≠tS rC/\t≠tS g9):PX (.link l r):=by
 have c:=hx;unfold ExP at c;refine mO hx rfl (λt q e=>?_) λrest d q hn hd h=>?_
 ·rw[co]at e
  obtain⟨a,b,f,_⟩:=oM c.1 8;have i:exK l 8++(tS jo::(if gh r=true then co r else tS cD::(co r++[tS bR])))=t::q:=e;rw[f]at i;injection i with e4 _;subst e4;exact hl0 _ _ f
 ·rw[gC]at hd
  rw[co];have e:(uD l 8 (co l)++tS jo::(if gh r=true then co r else tS cD::(co r++[tS bR])))++rest=exK l 8++(tS jo::((if gh r=true then co r else tS cD::(co r++[tS bR]))++rest)):=by unfold exK;simp
  rw[e];refine hl.a _ d q ⟨_,_,rfl,by decide⟩ (by unfold lc;omega) ?_;have g:=JE c.2 hr rest d hn.ne (by
   by_cases g:gh r=true
   ·rw[ax g];omega
   ·rw[ap g]at hd ⊢;omega)
  refine g.two h λn e1 f=>?_;rw[gT,dh,show isT ss (tS jo)=false from by decide,ap (by decide),dh,show isT jo (tS jo)=true from by decide,ax rfl];rw[cT _ _ _ (List.append_ne_nil_of_right_ne_nil _ hn.ne),e1,aj];exact f
theorem Ko {l:Ex} (hx:ExP (.new l)) (hl:PX l):PX (.new l):=by
 have a:=hx;unfold ExP at a;refine mO hx rfl (λt r e=>by rw[co]at e;injection e with e _;subst e;exact⟨(by intro h;injection h with h _;cases h),(by intro h;injection h with h _;cases h)⟩) λrest d r hn hd h=>?_;rw[gC]at hd;rw[co];have e:(tK ri::tS cD::(co l++[tS bR]))++rest=tK ri::(tS cD::(co l++tS bR::rest)):=by simp
 rw[e];have c:=oz (w1:=cD) (w2:=bR) (d:=d) a hl (by omega) hn.ne (sV (.inl rfl) _) (by decide);have b:Ev (λn=>dG n ⟨tK ri::(tS cD::(co l++tS bR::rest)),d⟩) (.new l,⟨rest,d⟩):=c.succ λn e1=>by
  rw[dG,dh,show isT ri (tK ri)=true from by decide,ax rfl,cT _ _ _ (by simp),e1];rfl
 exact b.two h λn e1 e2=>by rw[fU,e1,aj];exact e2
theorem Kp (hx:ExP .inp):PX .inp:=by
 refine mO hx rfl (λt r e=>by rw[co]at e;injection e with e _;subst e;exact⟨(by intro h;injection h with h _;cases h),(by intro h;injection h with h _;cases h)⟩) λrest d r hn hd h=>?_;rw[gC]at hd;rw[co];have a:Ev (λn=>dG n ⟨tK wIn::tS cD::tS bR::rest,d⟩) (.inp,⟨rest,d⟩):=Ev.step1 λn=>by
  rw[dG,dh,show isT ri (tK wIn)=false from by decide,ap (by decide),dh,show isT wIn (tK wIn)=true from by decide,ax rfl,cT _ _ _ (by simp)];rw[mT cD (tS bR::rest) d (by simp) (by omega) _ () ⟨rest,d+1⟩ (by rw[eZ _ _ _ hn.ne];rfl)];rfl
 show Ev (λn=>fU n ⟨tK wIn::tS cD::tS bR::rest,d⟩) r;exact a.two h λn e1 e2=>by rw[fU,e1,aj];exact e2
theorem GN:∀{x:Ex},ExP x->∀t q,exK x 8=t::q->t≠tS rC/\t≠tS g9:=by
 have c:∀{x:Ex},(lvl x=8->∀t q,co x=t::q->t≠tS rC/\t≠tS g9)->∀t q,exK x 8=t::q->t≠tS rC/\t≠tS g9:=by
  intro x h t q e
  by_cases hl:lvl x<8
  ·rw[vz hl]at e
   injection e with e _;subst e;exact⟨by decide,by decide⟩
  ·rw[qY (by omega)]at e
   refine h ?_ t q e;have:lvl x<=8:=by
    cases x with
    | bin t l r=>have:=kT t;show binds t<=8;omega
    | un t r=>show(7:Int)<=8;omega
    | _=>exact Int.le_refl 8
   omega
 intro x
 induction x using Ex.rec (motive_2:=λ_=>True)with
 | num m=>exactλ_=>c λ_ t q e=>by rw[co]at e;injection e with e _;subst e;exact⟨(by intro h;injection h with h _;cases h),(by intro h;injection h with h _;cases h)⟩
 | name m=>exactλ_=>c λ_ t q e=>by rw[co]at e;injection e with e _;subst e;exact⟨(by intro h;injection h with h _;cases h),(by intro h;injection h with h _;cases h)⟩
 | un a r _=>exactλ_=>c λh=>absurd h (by show¬(7:Int)=8;decide)
 | bin a l r _ _=>exactλ_=>c λh=>absurd h (by have:=kT a;show¬binds a=8;omega)
 | call s args _=>exactλ_=>c λ_ t q e=>by rw[co]at e;injection e with e _;subst e;exact⟨(by intro h;injection h with h _;cases h),(by intro h;injection h with h _;cases h)⟩
 | cell l r ihl _ =>
  intro d;unfold ExP at d;refine c λ_ t q e=>?_;rw[co]at e;obtain⟨a,b,f,_⟩:=oM d.1 8;have g:exK l 8++(tS ss::(co r++[tS A4]))=t::q:=e;rw[f]at g;injection g with e4 _;subst e4;exact ihl d.1 _ _ f
 | link l r ihl _ =>
  intro d;unfold ExP at d;refine c λ_ t q e=>?_;rw[co]at e;obtain⟨a,b,f,_⟩:=oM d.1 8;have g:exK l 8++(tS jo::(if gh r=true then co r else tS cD::(co r++[tS bR])))=t::q:=e;rw[f]at g;injection g with e4 _;subst e4;exact ihl d.1 _ _ f
 | new l _=>exactλ_=>c λ_ t q e=>by rw[co]at e;injection e with e _;subst e;exact⟨(by intro h;injection h with h _;cases h),(by intro h;injection h with h _;cases h)⟩
 | inp=>exactλ_=>c λ_ t q e=>by rw[co]at e;injection e with e _;subst e;exact⟨(by intro h;injection h with h _;cases h),(by intro h;injection h with h _;cases h)⟩
 | nil=>trivial
 | cons x xs _ _=>trivial
theorem Ds (hx:ExP x) (h:PX x) (rest:List Tok) (d:Nat) (hn:Nb rest) (hs:Stp 1 rest) (hd:d+gC x<=64):Ev (λn=>cZ n 1 ⟨co x++rest,d⟩) (x,⟨rest,d⟩):=by
 have:=h.b 1 1 rest d _ (by omega) (by omega) (by omega) hn (hs.lo (by omega)) (by rw[kQ hx];exact hd) (l7 hn.ne hs);rw[qY (gU hx)]at this;exact this
theorem DW:∀(args:List Ex) (b:Bool) (acc:List Ex) (rest:List Tok) (d:Nat),om args->(∀x∈args,PX x)->d+vB args<=64->Ev (λn=>jT n b acc ⟨iY b args++tS bR::rest,d⟩) (acc++args,⟨tS bR::rest,d⟩)
 | [],b,acc,rest,d,_,_,_=>Ev.step1 λn=>by
  rw[iY,bh,jT,dh,show isT bR (tS bR)=true from by decide,ax rfl,bo]
 | x::xs,b,acc,rest,d,hp,h,hd=>by
  unfold om at hp;rw[vB]at hd;have g:=DW xs false (acc++[x]) rest d hp.2 (λy hy=>h y (aP _ hy)) (by omega);have s:∃t q,iY false xs++tS bR::rest=t::q/\(t=tS bR\/t=tS fy):=by
   cases xs with
   | nil=>exact⟨_,_,rfl,.inl rfl⟩
   | cons y ys=>rw[iY];exact⟨_,_,rfl,.inr rfl⟩
  obtain⟨t,q,r,i⟩:=s;have l:Nb (iY false xs++tS bR::rest):=by rw[r];exact⟨_,_,rfl,by rcases i with rfl|rfl<;>decide,by rcases i with rfl|rfl<;>decide,by rcases i with rfl|rfl<;>decide⟩
  have o:Stp 1 (iY false xs++tS bR::rest):=λa c e hk=>by
   rw[r]at e;injection e with e _;subst e;exact .inl (by rcases i with rfl|rfl<;>decide)
  have u:=Ds hp.1 (h x (aL ..)) _ d l o (by omega);have f:acc++x::xs=acc++[x]++xs:=by simp
  rw[f];refine u.two g λn e1 e2=>?_;obtain⟨a,c,p,k⟩:=io hp.1;cases b with
  | true =>
   rw[iY,ax rfl,bh];have j:co x++iY false xs++tS bR::rest=co x++(iY false xs++tS bR::rest):=by simp
   rw[j,jT];have m:isW bR ⟨co x++(iY false xs++tS bR::rest),d⟩=false:=by
    rw[p];show isT bR a=false;unfold isT;rcases k with h|h|rfl|rfl|rfl|rfl|rfl
    ·simp[h]
    ·simp[h]
    ·decide
    ·decide
    ·decide
    ·decide
    ·decide
   rw[m,ap (by decide),ax rfl,aj,e1,aj];exact e2
  | false =>
   rw[iY,ap (by decide)];have j:[tS fy]++(co x++iY false xs)++tS bR::rest=tS fy::(co x++(iY false xs++tS bR::rest)):=by simp
   rw[j,jT,dh,show isT bR (tS fy)=false from by decide,ap (by decide),ap (by decide),eZ _ _ _ (by rw[p];simp),aj,e1,aj];exact e2
theorem It {args:List Ex} (hx:ExP (.call s args)) (h:∀x∈args,PX x):PX (.call s args):=by
 have a:=hx;unfold ExP at a;refine mO hx rfl (λt r e=>by rw[co]at e;injection e with e _;subst e;exact⟨(by intro h;injection h with h _;cases h),(by intro h;injection h with h _;cases h)⟩) λrest d r hn hd hl=>?_;rw[gC]at hd;rw[co];have e:(⟨1,s⟩::tS cD::(iY true args++[tS bR]))++rest=⟨1,s⟩::tS cD::(iY true args++tS bR::rest):=by simp
 rw[e];have f:=DW args true [] rest (d+1) a.2.2 h (by omega);rw[bh]at f;have c:∀w l d,isW w ⟨⟨1,s⟩::l,d⟩=false:=λw l d=>nR w s;have b:Ev (λn=>dN n ⟨⟨1,s⟩::tS cD::(iY true args++tS bR::rest),d⟩) (.name s,⟨tS cD::(iY true args++tS bR::rest),d⟩):=Ev.step1 λn=>by
  rw[dN,c,ap (by decide),ap (by rw[fX];show¬(1:Int)=2;decide)];unfold cR;rw[fX,ax rfl,cT _ _ _ (by simp)];rfl
 have g:Ev (λn=>dG n ⟨⟨1,s⟩::tS cD::(iY true args++tS bR::rest),d⟩) (.call s args,⟨rest,d⟩):=b.two f λn e1 e2=>by
  rw[dG,c,c,ap (by decide),ap (by decide),e1,aj];rw[ax ⟨rfl,by rw[dh];decide⟩];rw[mT cD (iY true args++tS bR::rest) d (by simp) (by omega) _ args ⟨rest,d+1⟩ (by
   show(jT n true [] ⟨iY true args++tS bR::rest,d+1⟩).bind _=_;rw[e2,aj,eZ _ _ _ hn.ne];rfl)]
  rfl
 exact g.two hl λn e1 e2=>by rw[fU,e1,aj];exact e2
mutual
theorem lx:∀x:Ex,ExP x->PX x
 | .num _,h=>Kn h
 | .name _,h=>Iq h
 | .un _ r,h=>LT h (lx r (by unfold ExP at h;exact h.2))
 | .bin _ l r,h=>Kq h (lx l (by unfold ExP at h;exact h.2.1)) (lx r (by unfold ExP at h;exact h.2.2))
 | .call _ args,h=>It h (B8 args (by unfold ExP at h;exact h.2.2))
 | .cell l r,h=>Is h (lx l (by unfold ExP at h;exact h.1)) (lx r (by unfold ExP at h;exact h.2)) (GN (by unfold ExP at h;exact h.1))
 | .link l r,h=>Ir h (lx l (by unfold ExP at h;exact h.1)) (lx r (by unfold ExP at h;exact h.2)) (GN (by unfold ExP at h;exact h.1))
 | .new l,h=>Ko h (lx l (by unfold ExP at h;exact h))
 | .inp,h=>Kp h
theorem B8:∀l:List Ex,om l->∀x∈l,PX x
 | [],_,_,hm=>absurd hm (by simp)
 | y::l,h,x,hm=>by
  unfold om at h
  by_cases he:x=y
  ·exact he▸lx y h.1
  ·exact B8 l h.2 x ((aR.1 hm).resolve_left he)
end
theorem DG:∀(f n:Nat) (acc:Tx),n<10^f->FX f n acc=Go.Lib.decDigits n++acc\/f=0
 | 0,_,_,_=>.inr rfl
 | f+1,n,acc,h=>by
  left
  rw[FX,Go.Lib.decDigits];split
  ·rfl
  ·rename_i hn
   rw[Nat.pow_succ]at h;rcases DG f (n/10) (UInt8.ofNat (48+n%10)::acc) (by omega)with e|e
   ·rw[e,aF];rfl
   ·subst e;omega
theorem La (h:n<=4294967295):ru n=Go.Lib.decDigits n:=by
 rcases DG 20 n [] (by omega)with e|e
 ·rw[ru,e,bo]
 ·cases e
mutual
def stK:Sm->List Tok
 | .var n p none=>tK tV::⟨1,n⟩::((if p=true then[tK cY]else[])++[tS bU])
 | .var n p (some r)=>tK tV::⟨1,n⟩::((if p=true then[tK cY]else[])++tS wEq::(co r++[tS bU]))
 | .set n r=>⟨1,n⟩::tS wEq::(co r++[tS bU])
 | .cell l r=>co l++tS wEq::(co r++[tS bU])
 | .iff r a b=>tK wIf::(co r++(tS fu::(iG a++[tS c8]))++(if b.isEmpty=true then[]else tK iu::(if jB b=true then iG b else tS fu::(iG b++[tS c8]))))
 | .whl r a=>tK jI::(co r++tS fu::(iG a++[tS c8]))
 | .out r=>tK yo::(co r++[tS bU])
 | .free r=>tK nl::(co r++[tS bU])
 | .drain=>[tK jY,tS bU]
 | .ret none=>[tK fS,tS bU]
 | .ret (some r)=>tK fS::(co r++[tS bU])
 | .call r=>co r++[tS bU]
def iG:List Sm->List Tok
 | []=>[]
 | x::xs=>stK x++iG xs
end
def brK (r:Ex) (a b:List Sm):List Tok:=co r++(tS fu::(iG a++[tS c8]))++(if b.isEmpty=true then[]else tK iu::(if jB b=true then iG b else tS fu::(iG b++[tS c8])))
theorem BI (r:Ex) (a b:List Sm):stK (.iff r a b)=tK wIf::brK r a b:=by rw[stK];rfl
def STp (x:Sm):Prop:=∀(rest:List Tok) (d:Nat),Ne rest->d+mY x<=64->Ev (λn=>ek n ⟨stK x++rest,d⟩) (x,⟨rest,d⟩)
def BRp (x:Sm):Prop:=∀(r:Ex) (a b:List Sm),x=.iff r a b->∀(rest:List Tok) (d:Nat),Ne rest->d+mY x<=64->Ev (λn=>dz n ⟨brK r a b++rest,d⟩) (x,⟨rest,d⟩)
def MN (t:Tok):Prop:=Beg t\/t=tK tV\/t=tK wIf\/t=tK jI\/t=tK yo\/t=tK nl\/t=tK jY\/t=tK fS
theorem xZ (h:Beg t) (w:Tx) (hw:w=c8\/w=iu\/w=wEq\/w=bU):isT w t=false:=by
 obtain⟨k,x⟩:=t;rcases h with h|h|h|h|h|h|h
 ·simp at h;subst h;exact nR w x
 ·simp at h;subst h;exact xm w x
 all_goals
  cases h;rcases hw with rfl|rfl|rfl|rfl<;>decide
theorem zE (h:MN t):isT c8 t=false/\isT iu t=false:=by
 rcases h with h|rfl|rfl|rfl|rfl|rfl|rfl|rfl
 ·exact⟨xZ h _ (.inl rfl),xZ h _ (.inr (.inl rfl))⟩
 all_goals exact⟨by decide,by decide⟩
theorem vM (h:Beg t):¬(t.kind=4/\t.text≠ri/\t.text≠wIn):=by
 obtain⟨k,x⟩:=t;rcases h with h|h|h|h|h|h|h
 ·simp at h;subst h;intro h;exact absurd h.1 (by show¬(1:Int)=4;decide)
 ·simp at h;subst h;intro h;exact absurd h.1 (by show¬(2:Int)=4;decide)
 all_goals (cases h;decide)
theorem BJ {x:Sm} (h:SmP x):∃t r,stK x=t::r/\MN t:=by
 cases x with
 | var n p r=>cases r<;>(rw[stK];exact⟨_,_,rfl,.inr (.inl rfl)⟩)
 | set n r=>rw[stK];exact⟨_,_,rfl,.inl (.inl rfl)⟩
 | cell l r =>
  unfold SmP at h;obtain⟨t,q,e,c⟩:=io h.2.1;rw[stK,e];exact⟨t,_,rfl,.inl c⟩
 | iff r a b=>rw[stK];exact⟨_,_,rfl,.inr (.inr (.inl rfl))⟩
 | whl r a=>rw[stK];exact⟨_,_,rfl,.inr (.inr (.inr (.inl rfl)))⟩
 | out r=>rw[stK];exact⟨_,_,rfl,.inr (.inr (.inr (.inr (.inl rfl))))⟩
 | free r=>rw[stK];exact⟨_,_,rfl,.inr (.inr (.inr (.inr (.inr (.inl rfl)))))⟩
 | drain=>rw[stK];exact⟨_,_,rfl,.inr (.inr (.inr (.inr (.inr (.inr (.inl rfl))))))⟩
 | ret r=>cases r<;>(rw[stK];exact⟨_,_,rfl,.inr (.inr (.inr (.inr (.inr (.inr (.inr rfl))))))⟩)
 | call r =>
  unfold SmP at h;obtain⟨t,q,e,c⟩:=io h.2;rw[stK,e];exact⟨t,_,rfl,.inl c⟩
theorem Mf (h:w=bU\/w=wEq\/w=fu) (rest:List Tok):Nb (tS w::rest):=⟨_,_,rfl,by rcases h with rfl|rfl|rfl<;>decide,by rcases h with rfl|rfl|rfl<;>decide,by rcases h with rfl|rfl|rfl<;>decide⟩
theorem LJ (h:w=bU\/w=wEq\/w=fu) (rest:List Tok):Stp 1 (tS w::rest):=λt r e _=>by
 injection e with e _;subst e;exact .inl (by rcases h with rfl|rfl|rfl<;>decide)
theorem vu (hx:ExP x) (h:w=bU\/w=wEq\/w=fu) (rest:List Tok) (d:Nat) (hd:d+gC x<=64):Ev (λn=>cZ n 1 ⟨co x++tS w::rest,d⟩) (x,⟨tS w::rest,d⟩):=
 Ds hx (lx x hx) _ d (Mf h rest) (LJ h rest) hd
theorem nZ (hx:ExP x) (rest:List Tok) (d:Nat) (hr:rest≠[]) (hd:d+gC x<=64):Ev (λn=>dy n ⟨co x++tS bU::rest,d⟩) (x,⟨rest,d⟩):=
 (vu hx (.inl rfl) rest d hd).map λn e=>by
  unfold dy;rw[e,aj,eZ _ _ _ hr];rfl
theorem Gx (hx:ExP x) (hl:lvl x=8) (h:w=bU\/w=wEq\/w=fu) (rest:List Tok) (d:Nat) (hd:d+gC x<=64):Ev (λn=>fU n ⟨co x++tS w::rest,d⟩) (x,⟨tS w::rest,d⟩):=by
 have:=(lx x hx).a (tS w::rest) d (x,⟨tS w::rest,d⟩) (Mf h rest).no (by rw[jO (by omega)];exact hd) (oE (Mf h rest));rw[qY (by omega)]at this;exact this
theorem yz:∀(l:List Sm),jW l->(∀x∈l,STp x)->∀(acc:List Sm) (rest:List Tok) (d:Nat),d+iE l<=64->Ev (λn=>dY n acc ⟨iG l++tS c8::rest,d⟩) (acc++l,⟨tS c8::rest,d⟩)
 | [],_,_,acc,rest,d,_=>Ev.step1 λn=>by
  rw[iG,bh,dY,dh,show isT c8 (tS c8)=true from by decide,ax rfl,bo]
 | x::xs,hp,h,acc,rest,d,hd=>by
  unfold jW at hp;rw[iE]at hd;have c:=yz xs hp.2 (λy hy=>h y (aP _ hy)) (acc++[x]) rest d (by omega);have g:Ne (iG xs++tS c8::rest):=by
   cases xs with
   | nil=>exact⟨_,_,rfl,by decide⟩
   | cons y ys =>
    have b:=hp.2;unfold jW at b;obtain⟨t,q,e,f⟩:=BJ b.1;rw[iG,e];exact⟨t,_,rfl,(zE f).2⟩
  have k:=h x (aL ..) _ d g (by omega);obtain⟨t,q,e,f⟩:=BJ hp.1;have a:acc++x::xs=acc++[x]++xs:=by simp
  rw[a];refine k.two c λn e1 e2=>?_;have j:iG (x::xs)++tS c8::rest=stK x++(iG xs++tS c8::rest):=by rw[iG];simp
  rw[j,dY];have i:isW c8 ⟨stK x++(iG xs++tS c8::rest),d⟩=false:=by rw[e];exact(zE f).1
  rw[i,ap (by decide),e1,aj];exact e2
theorem mb (l:List Sm) (hp:jW l) (h:∀x∈l,STp x) (rest:List Tok) (d:Nat) (hr:rest≠[]) (hd:d+1+iE l<=64):Ev (λn=>dc n ⟨tS fu::(iG l++tS c8::rest),d⟩) (l,⟨rest,d⟩):=by
 have:=yz l hp h [] rest (d+1) hd;rw[bh]at this;refine this.succ λn e=>?_;rw[dc];exact mT fu (iG l++tS c8::rest) d (by simp) (by omega) (λs1=>(dY n [] s1).bind λr=>(bP c8 r.2).bind λs2=>some (r.1,s2)) l ⟨rest,d+1⟩ (by
  show(dY n [] ⟨iG l++tS c8::rest,d+1⟩).bind _=_;rw[e,aj,eZ _ _ _ hr];rfl)
theorem rZ {b:List Sm} (h:jB b=true):∃r2 a2 b2,b=[.iff r2 a2 b2]:=by
 match b,h with
 | [x],h =>
  cases x with
  | iff r2 a2 b2=>exact⟨r2,a2,b2,rfl⟩
  | _=>simp[jB,tq]at h
 | _::_::_,h=>simp[jB]at h
theorem Mr (r:Ex) (a b:List Sm) (hp:SmP (.iff r a b)) (ha:∀x∈a,STp x) (hb:∀x∈b,STp x/\BRp x):BRp (.iff r a b):=by
 intro E C D e c d hn hd;cases e;unfold SmP at hp;rw[mY]at hd;unfold brK
 by_cases h0:b.isEmpty=true
 ·have v:b=[]:=by simpa using h0
  subst v;rw[ax h0,bo];rw[ax h0]at hd;have e:co r++(tS fu::(iG a++[tS c8]))++c=co r++tS fu::(iG a++tS c8::c):=by simp
  rw[e];have s:=vu hp.1 (.inr (.inr rfl)) (iG a++tS c8::c) d (by omega);have u:=mb a hp.2.1 ha c d hn.ne (by omega);refine s.two u λn f g=>?_;rw[dz,f,aj,g,aj];obtain⟨t,q,rfl,B⟩:=hn;rw[ap (by show¬isT iu t=true;rw[B];decide)]
 ·rw[ap h0]
  rw[ap h0]at hd
  by_cases hei:jB b=true
  ·rw[ax hei]
   rw[ax hei]at hd;obtain⟨k,h,i,rfl⟩:=rZ hei
   ·clear h0
    have w:=(hb _ (aL ..)).2 k h i rfl c d hn (by rw[iE,iE]at hd;omega);have e:co r++(tS fu::(iG a++[tS c8]))++(tK iu::iG [.iff k h i])++c=co r++tS fu::(iG a++tS c8::(tK iu::tK wIf::(brK k h i++c))):=by
     rw[iG,iG,BI];simp
    rw[e];have s:=vu hp.1 (.inr (.inr rfl)) (iG a++tS c8::(tK iu::tK wIf::(brK k h i++c))) d (by omega);have u:=mb a hp.2.1 ha (tK iu::tK wIf::(brK k h i++c)) d (by simp) (by omega);obtain⟨l,y⟩:=s;obtain⟨o,z⟩:=u;obtain⟨p,A⟩:=w;refine⟨max l (max o p)+1,λn hn'=>?_⟩;obtain⟨m,rfl⟩:∃m,n=m+1:=⟨n-1,by omega⟩;show dz (m+1) _=_;have f:=y m (by omega);have g:=z m (by omega);have j:=A m (by omega);simp only at f g j;rw[dz,f,aj,g,aj];rw[ax (by show isT iu (tK iu)=true;decide)];rw[cT _ _ _ (by simp),ax (by show isT wIf (tK wIf)=true;decide)];rw[cT _ _ _ (List.append_ne_nil_of_right_ne_nil _ hn.ne),j];rfl
  ·rw[ap hei]
   rw[ap hei]at hd;have e:co r++(tS fu::(iG a++[tS c8]))++(tK iu::tS fu::(iG b++[tS c8]))++c=co r++tS fu::(iG a++tS c8::(tK iu::tS fu::(iG b++tS c8::c))):=by simp
   rw[e];obtain⟨l,y⟩:=vu hp.1 (.inr (.inr rfl)) (iG a++tS c8::(tK iu::tS fu::(iG b++tS c8::c))) d (by omega);obtain⟨o,z⟩:=mb a hp.2.1 ha (tK iu::tS fu::(iG b++tS c8::c)) d (by simp) (by omega);obtain⟨p,A⟩:=mb b hp.2.2 (λx hx=>(hb x hx).1) c d hn.ne (by omega);refine⟨max l (max o p)+1,λn hn'=>?_⟩;obtain⟨m,rfl⟩:∃m,n=m+1:=⟨n-1,by omega⟩;show dz (m+1) _=_;have f:=y m (by omega);have g:=z m (by omega);have j:=A m (by omega);simp only at f g j;rw[dz,f,aj,g,aj];rw[ax (by show isT iu (tK iu)=true;decide)];rw[cT _ _ _ (by simp),ap (by show¬isT wIf (tS fu)=true;decide),j];rfl
theorem je (h1:k≠ri) (h2:k≠wIn) (hl:l≠[]):ek (n+1) ⟨tK k::l,d⟩ =
   (if k=tV then(cR ⟨l,d⟩).bind λr =>
    if isW wEq (cF cY r.2).2=true then(dy n (aS (cF cY r.2).2)).bind λe=>some (.var r.1 (cF cY r.2).1 (some e.1),e.2)
    else(bP bU (cF cY r.2).2).bind λs4=>some (.var r.1 (cF cY r.2).1 none,s4)
   else if k=wIf then dz n ⟨l,d⟩
   else if k=jI then(cZ n 1 ⟨l,d⟩).bind λr=>(dc n r.2).bind λa=>some (.whl r.1 a.1,a.2)
   else if k=yo then(dy n ⟨l,d⟩).bind λe=>some (.out e.1,e.2)
   else if k=nl then(dy n ⟨l,d⟩).bind λe=>some (.free e.1,e.2)
   else if k=jY then(bP bU ⟨l,d⟩).bind λs2=>some (.drain,s2)
   else if k=fS then
    if isW bU ⟨l,d⟩=true then some (.ret none,aS ⟨l,d⟩)else(dy n ⟨l,d⟩).bind λe=>some (.ret (some e.1),e.2)
   else none):=by
 rw[ek,ax ⟨rfl,h1,h2⟩,cT _ _ _ hl,fX]
def Ct (n:Nat) (x:Ex) (s:PS):Option (Sm×PS):=
 if isW wEq s=true then
  match x with
  | .name nm=>(dy n (aS s)).bind λe=>some (.set nm e.1,e.2)
  | .cell a b=>(dy n (aS s)).bind λe=>some (.cell (.cell a b) e.1,e.2)
  | .link a b=>(dy n (aS s)).bind λe=>some (.cell (.link a b) e.1,e.2)
  | _=>none
 else
  match x with
  | .call a b=>(bP bU s).bind λs2=>some (.call (.call a b),s2)
  | _=>none
theorem qg (h:¬(t.kind=4/\t.text≠ri/\t.text≠wIn)) {s:PS} (hp:fU n ⟨t::l,d⟩=some (x,s)):ek (n+1) ⟨t::l,d⟩=Ct n x s:=by
 rw[ek,fX,ap h,hp,aj];rfl
theorem pE (p:Bool) (t:Tok) (l:List Tok) (d:Nat) (h:isT cY t=false):cF cY ⟨(if p=true then[tK cY]else[])++t::l,d⟩=(p,⟨t::l,d⟩):=by
 cases p with
 | true =>
  rw[ax rfl];show cF cY ⟨tK cY::t::l,d⟩=_;unfold cF;rw[dh,show isT cY (tK cY)=true from by decide,ax rfl,cT _ _ _ (by simp)]
 | false =>
  rw[ap (by decide)];show cF cY ⟨t::l,d⟩=_;unfold cF;rw[dh,h,ap (by decide)]
theorem nM (s:Tx) (l:List Tok) (d:Nat) (h:l≠[]):cR ⟨⟨1,s⟩::l,d⟩=some (s,⟨l,d⟩):=by
 unfold cR;rw[fX,ax rfl,cT _ _ _ h]
theorem yB (l r:Ex) (x:Sm) (hl:ExP l) (hl8:lvl l=8) (hr:ExP r) (hx:(∃nm,l=.name nm/\x=.set nm r)\/((∃a b,l=.cell a b\/l=.link a b)/\x=.cell l r)) (rest:List Tok) (d:Nat) (hn:Ne rest) (hd:d+max (gC l) (gC r)<=64):Ev (λn=>ek n ⟨co l++tS wEq::(co r++tS bU::rest),d⟩) (x,⟨rest,d⟩):=by
 have c:=Gx hl hl8 (.inr (.inl rfl)) (co r++tS bU::rest) d (by omega);have f:=nZ hr rest d hn.ne (by omega);obtain⟨t,q,e,g⟩:=io hl;refine c.two f λn e1 e2=>?_;rw[e,bB]at e1 ⊢;rw[qg (vM g) e1];unfold Ct;rw[ax (by show isT wEq (tS wEq)=true;decide),cT _ _ _ (by simp)];rcases hx with⟨nm,rfl,rfl⟩|⟨⟨a,b,rfl|rfl⟩,rfl⟩<;>(simp only;rw[e2];rfl)
mutual
theorem J6:∀x:Sm,SmP x->STp x/\BRp x
 | .var nm p none,h=>⟨λrest d hn hd=>Ev.step1 λn=>by
   rw[stK];have e:tK tV::⟨1,nm⟩::((if p=true then[tK cY]else[])++[tS bU])++rest=tK tV::⟨1,nm⟩::((if p=true then[tK cY]else[])++tS bU::rest):=by simp
   rw[e,je (by decide) (by decide) (by simp),ax rfl,nM _ _ _ (by simp),aj,pE p _ _ _ (by decide)];rw[ap (by show¬isT wEq (tS bU)=true;decide),eZ _ _ _ hn.ne];rfl,λr a b e=>by cases e⟩
 | .var nm p (some r),h=>⟨λrest d hn hd=>by
   unfold SmP at h;rw[mY]at hd;have j:=nZ h.2 rest d hn.ne hd;refine j.succ λn e1=>?_;rw[stK];have e:tK tV::⟨1,nm⟩::((if p=true then[tK cY]else[])++tS wEq::(co r++[tS bU]))++rest=tK tV::⟨1,nm⟩::((if p=true then[tK cY]else[])++tS wEq::(co r++tS bU::rest)):=by simp
   rw[e,je (by decide) (by decide) (by simp),ax rfl,nM _ _ _ (by simp),aj,pE p _ _ _ (by decide)];rw[ax (by show isT wEq (tS wEq)=true;decide),cT _ _ _ (by simp),e1];rfl,λr a b e=>by cases e⟩
 | .set nm r,h=>⟨λrest d hn hd=>by
   unfold SmP at h;rw[mY]at hd;rw[stK];have e:(⟨1,nm⟩:Tok)::tS wEq::(co r++[tS bU])++rest=co (.name nm)++tS wEq::(co r++tS bU::rest):=by rw[co];simp
   rw[e];exact yB (.name nm) r _ (by unfold ExP;exact h.1) rfl h.2 (.inl ⟨nm,rfl,rfl⟩) rest d hn (by rw[gC];omega),λr a b e=>by cases e⟩
 | .cell l r,h=>⟨λrest d hn hd=>by
   unfold SmP at h;rw[mY]at hd;rw[stK];have e:co l++tS wEq::(co r++[tS bU])++rest=co l++tS wEq::(co r++tS bU::rest):=by simp
   rw[e];exact yB l r _ h.2.1 (by obtain⟨a,b,rfl|rfl⟩:=h.1<;>rfl) h.2.2 (.inr ⟨h.1,rfl⟩) rest d hn hd,λr a b e=>by cases e⟩
 | .iff r a b,h=>by
   have f:=Mr r a b h (λx hx=>(qc a (by unfold SmP at h;exact h.2.1) x hx).1) (qc b (by unfold SmP at h;exact h.2.2));refine⟨λrest d hn hd=>?_,f⟩;refine(f r a b rfl rest d hn hd).succ λn e1=>?_;rw[BI,bB,je (by decide) (by decide) (List.append_ne_nil_of_right_ne_nil _ hn.ne),ap (by decide),ax rfl];exact e1
 | .whl r a,h=>⟨λrest d hn hd=>by
   have g:=h;unfold SmP at g;rw[mY]at hd;have o:=vu g.1 (.inr (.inr rfl)) (iG a++tS c8::rest) d (by omega);have j:=mb a g.2 (λx hx=>(qc a g.2 x hx).1) rest d hn.ne (by omega);refine o.two j λn e1 e2=>?_;rw[stK];have e:tK jI::(co r++tS fu::(iG a++[tS c8]))++rest=tK jI::(co r++tS fu::(iG a++tS c8::rest)):=by simp
   rw[e,je (by decide) (by decide) (by simp),ap (by decide),ap (by decide),ax rfl,e1,aj,e2];rfl,λr a b e=>by cases e⟩
 | .out r,h=>⟨λrest d hn hd=>by
   unfold SmP at h;rw[mY]at hd;refine(nZ h rest d hn.ne hd).succ λn e1=>?_;rw[stK];have e:tK yo::(co r++[tS bU])++rest=tK yo::(co r++tS bU::rest):=by simp
   rw[e,je (by decide) (by decide) (by simp),ap (by decide),ap (by decide),ap (by decide),ax rfl,e1];rfl,λr a b e=>by cases e⟩
 | .free r,h=>⟨λrest d hn hd=>by
   unfold SmP at h;rw[mY]at hd;refine(nZ h rest d hn.ne hd).succ λn e1=>?_;rw[stK];have e:tK nl::(co r++[tS bU])++rest=tK nl::(co r++tS bU::rest):=by simp
   rw[e,je (by decide) (by decide) (by simp),ap (by decide),ap (by decide),ap (by decide),ap (by decide),ax rfl,e1];rfl,λr a b e=>by cases e⟩
 | .drain,h=>⟨λrest d hn hd=>Ev.step1 λn=>by
   rw[stK];show ek (n+1) ⟨tK jY::tS bU::rest,d⟩=_;rw[je (by decide) (by decide) (by simp),ap (by decide),ap (by decide),ap (by decide),ap (by decide),ap (by decide),ax rfl,eZ _ _ _ hn.ne];rfl,λr a b e=>by cases e⟩
 | .ret none,h=>⟨λrest d hn hd=>Ev.step1 λn=>by
   rw[stK];show ek (n+1) ⟨tK fS::tS bU::rest,d⟩=_;rw[je (by decide) (by decide) (by simp),ap (by decide),ap (by decide),ap (by decide),ap (by decide),ap (by decide),ap (by decide),ax rfl,ax (by show isT bU (tS bU)=true;decide),cT _ _ _ hn.ne],λr a b e=>by cases e⟩
 | .ret (some r),h=>⟨λrest d hn hd=>by
   unfold SmP at h;rw[mY]at hd;obtain⟨t,q,i,k⟩:=io h;refine(nZ h rest d hn.ne hd).succ λn e1=>?_;rw[stK];have e:tK fS::(co r++[tS bU])++rest=tK fS::(co r++tS bU::rest):=by simp
   rw[e,je (by decide) (by decide) (by simp),ap (by decide),ap (by decide),ap (by decide),ap (by decide),ap (by decide),ap (by decide),ax rfl];rw[ap (by rw[i];show¬isT bU t=true;rw[xZ k _ (.inr (.inr (.inr rfl)))];decide),e1];rfl,λr a b e=>by cases e⟩
 | .call r,h=>⟨λrest d hn hd=>by
   unfold SmP at h;rw[mY]at hd;obtain⟨⟨s,c,rfl⟩,m⟩:=h;obtain⟨t,q,i,k⟩:=io m;refine(Gx m rfl (.inl rfl) rest d hd).succ λn e1=>?_;rw[stK];have e:co (.call s c)++[tS bU]++rest=co (.call s c)++tS bU::rest:=by simp
   rw[e];rw[i,bB]at e1 ⊢;rw[qg (vM k) e1];unfold Ct;rw[ap (by show¬isT wEq (tS bU)=true;decide)];simp only;rw[eZ _ _ _ hn.ne];rfl,λr a b e=>by cases e⟩
theorem qc:∀l:List Sm,jW l->∀x∈l,STp x/\BRp x
 | [],_,_,hm=>absurd hm (by simp)
 | y::l,h,x,hm=>by
  unfold jW at h
  by_cases he:x=y
  ·exact he▸J6 y h.1
  ·exact qc l h.2 x ((aR.1 hm).resolve_left he)
end
def lz:Bool->List Par->List Tok
 | _,[]=>[]
 | b,p::ps=>(if b=true then[]else[tS fy])++(⟨1,p.name⟩::((if p.ptr=true then[tK cY]else[])++lz false ps))
def FN (f:Fun):List Tok:=tK mh::⟨1,f.name⟩::tS cD::(lz true f.params++tS bR::((if f.ptr=true then[tK cY]else[])++tS fu::(iG f.body++[tS c8])))
def sK:List Fun->List Tok
 | []=>[]
 | f::fs=>FN f++sK fs
theorem uB:∀(ps:List Par) (b:Bool) (acc:List Par) (rest:List Tok) (d:Nat),Ev (λn=>fI n b acc ⟨lz b ps++tS bR::rest,d⟩) (acc++ps,⟨tS bR::rest,d⟩)
 | [],b,acc,rest,d=>Ev.step1 λn=>by
  rw[lz,bh,fI,dh,show isT bR (tS bR)=true from by decide,ax rfl,bo]
 | p::ps,b,acc,rest,d=>by
  have c:=uB ps false (acc++[p]) rest d;have a:acc++p::ps=acc++[p]++ps:=by simp
  rw[a];have h:∃t q,lz false ps++tS bR::rest=t::q/\isT cY t=false:=by
   cases ps with
   | nil=>exact⟨_,_,rfl,by decide⟩
   | cons y ys=>rw[lz];exact⟨_,_,rfl,by decide⟩
  obtain⟨t,q,g,i⟩:=h;refine c.succ λn e=>?_;rw[g]at e;have fin:((cR ⟨⟨1,p.name⟩::((if p.ptr=true then[tK cY]else[])++t::q),d⟩).bind λr=>fI n false (acc++[⟨r.1,(cF cY r.2).1⟩]) (cF cY r.2).2)=some (acc++[p]++ps,⟨tS bR::rest,d⟩):=by
   rw[nM _ _ _ (by simp),aj,pE _ _ _ _ i];exact e
  cases b with
  | true =>
   rw[lz,ax rfl,bh];have f:((⟨1,p.name⟩:Tok)::((if p.ptr=true then[tK cY]else[])++lz false ps))++tS bR::rest=(⟨1,p.name⟩:Tok)::((if p.ptr=true then[tK cY]else[])++t::q):=by rw[<- g];simp
   rw[f,fI,dh,nR,ap (by decide),ax rfl,aj];exact fin
  | false =>
   rw[lz,ap (by decide)];have f:[tS fy]++((⟨1,p.name⟩:Tok)::((if p.ptr=true then[tK cY]else[])++lz false ps))++tS bR::rest=tS fy::((⟨1,p.name⟩:Tok)::((if p.ptr=true then[tK cY]else[])++t::q)):=by rw[<- g];simp
   rw[f,fI,dh,show isT bR (tS fy)=false from by decide,ap (by decide),ap (by decide),eZ _ _ _ (by simp),aj];exact fin
theorem xz (f:Fun) (hp:FunP f) (rest:List Tok) (hr:rest≠[]):Ev (λn=>dl n ⟨FN f++rest,0⟩) (f,⟨rest,0⟩):=by
 have hd:=hp.deep;have c:=uB f.params true [] ((if f.ptr=true then[tK cY]else[])++tS fu::(iG f.body++tS c8::rest)) 1;rw[bh]at c;have i:=mb f.body hp.body (λx hx=>(qc _ hp.body x hx).1) rest 0 hr (by omega);obtain⟨d,j⟩:=c;obtain⟨g,k⟩:=i;refine⟨max d g,λn hn=>?_⟩;have a:=j n (by omega);have b:=k n (by omega);simp only at a b;have e:FN f++rest=tK mh::⟨1,f.name⟩::tS cD::(lz true f.params++tS bR::((if f.ptr=true then[tK cY]else[])++tS fu::(iG f.body++tS c8::rest))):=by unfold FN;simp
 show dl n ⟨FN f++rest,0⟩=_;rw[e];unfold dl;have h:bP mh ⟨tK mh::⟨1,f.name⟩::tS cD::(lz true f.params++tS bR::((if f.ptr=true then[tK cY]else[])++tS fu::(iG f.body++tS c8::rest))),0⟩=some ⟨⟨1,f.name⟩::tS cD::(lz true f.params++tS bR::((if f.ptr=true then[tK cY]else[])++tS fu::(iG f.body++tS c8::rest))),0⟩:=by
  unfold bP;rw[ax (by show isT mh (tK mh)=true;decide),cT _ _ _ (by simp)]
 rw[h,aj,nM _ _ _ (by simp),aj];rw[mT cD (lz true f.params++tS bR::((if f.ptr=true then[tK cY]else[])++tS fu::(iG f.body++tS c8::rest))) 0 (by simp) (by omega) _ f.params ⟨(if f.ptr=true then[tK cY]else[])++tS fu::(iG f.body++tS c8::rest),1⟩ (by
  rw[a,aj,eZ _ _ _ (by simp)];rfl)]
 rw[aj];simp only;rw[pE _ _ _ _ (by decide)];simp only;rw[b];rfl
theorem FM (f:Fun):∃r,FN f=tK mh::r:=⟨_,rfl⟩
theorem Cd:∀(fs:List Fun) (acc:List Fun),(∀f∈fs,FunP f)->Ev (λn=>gr n acc ⟨sK fs++[⟨5,[]⟩],0⟩) (acc++fs)
 | [],acc,_=>Ev.step1 λn=>by
  rw[sK,bh,gr,ax (by rw[fX]),bo]
 | f::fs,acc,hp=>by
  have c:=xz f (hp f (aL ..)) (sK fs++[⟨5,[]⟩]) (by simp);have d:=Cd fs (acc++[f]) λg hg=>hp g (aP _ hg);have a:acc++f::fs=acc++[f]++fs:=by simp
  rw[a];refine c.two d λn e1 e2=>?_;have b:sK (f::fs)++[⟨5,[]⟩]=FN f++(sK fs++[⟨5,[]⟩]):=by rw[sK];simp
  rw[b,gr,ap (by obtain⟨r,e⟩:=FM f;rw[e];show¬(4:Int)=5;decide),e1,aj];exact e2
def exT (x:Ex) (c:Int):Tx:=lg x c (cV x)
theorem AC {ts:List Tok} (h:df s ts []) (hl:s.length<=32768):gI s=some (ts++[⟨5,[]⟩]):=by
 obtain⟨k,a,b⟩:=h;unfold gI;rw[ap (by omega)];have:=b (s.length-k) [];rw[show s.length-k+k=s.length by simp at a;omega]at this;rw[this];cases s.length-k<;>rfl
def WE (l:Tx):Prop:=∀u q,l=u::q->dL u≠2/\dL u≠3
def SE (l:Tx):Prop:=∀u q,l=u::q->u ∉ ([124,38,61,60,62,47]:Tx)
def Aft (l:Tx):Prop:=WE l/\SE l
theorem uh {p:UInt8->Bool} (h:∀u∈s,p u=true) (hr:∀u q,rest=u::q->p u=false):(s++rest).takeWhile p=s:=by
 rw[List.takeWhile_append_of_pos h];cases rest with
 | nil=>simp
 | cons u q=>rw[ei,hr u q rfl];simp
theorem yu (s rest:Tx):(s++rest).take s.length=s:=by simp
theorem zy (s rest:Tx):(s++rest).drop s.length=rest:=by simp
theorem qO (h:dL u=2\/dL u=3) (r:Tx):jJ (u::r)=false:=by
 have:u≠47:=λe=>by subst e;revert h;decide
 unfold jJ;cases r<;>simp[List.isPrefixOf,this.symm]
theorem y8 (h:∀u∈s,dL u=2\/dL u=3) (hb:∃u r,s=u::r/\dL u=2) (hl:s.length<=32) (hr:WE rest):df (s++rest) [⟨if jx.contains s=true then 4 else 1,s⟩] rest:=by
 obtain⟨u,r,rfl,b⟩:=hb;have hn:dI [2,3] ((u::r)++rest)=(u::r).length:=by
  unfold dI;rw[uh (s:=u::r)]
  ·intro v g
   rcases h v g with e|e<;>(rw[e];rfl)
  ·intro v q e
   obtain⟨i,j⟩:=hr v q e;simp[i,j]
 refine df.step (c:=u) (r:=r++rest) ?_ (by simp);unfold dx;simp only;rw[ap (by rw[qO (.inl b)];decide),ap (by rw[b];decide),ax b];have a:dI [2,3] (u::(r++rest))=(u::r).length:=hn;rw[a,ap (by omega)];have d:(u::(r++rest)).take (u::r).length=u::r:=yu (u::r) rest;have f:(u::(r++rest)).drop (u::r).length=rest:=zy (u::r) rest;rw[d,f]
theorem kI (h:fe s) (hr:WE rest):df (s++rest) [⟨1,s⟩] rest:=by
 obtain⟨a,b,c,d⟩:=h;have:=y8 b c a hr;rw[d]at this;exact this
theorem C1 (h:k∈jx):(∀u∈k,dL u=2\/dL u=3)/\(∃u r,k=u::r/\dL u=2)/\k.length<=32:=by
 have:∀k∈jx,((k.all λu=>decide (dL u=2\/dL u=3))&&(match k with|[]=>false|u::_=>decide (dL u=2))&&decide (k.length<=32))=true:=by decide
 have d:=this k h;simp only[bH,fZ,bw]at d;obtain⟨⟨a,b⟩,c⟩:=d;refine⟨a,?_,c⟩;cases k with
 | nil=>cases b
 | cons u r=>exact⟨u,r,rfl,bm b⟩
theorem mR (h:k∈jx) (hr:WE rest):df (k++rest) [tK k] rest:=by
 obtain⟨a,b,c⟩:=C1 h;have:=y8 a b c hr;rw[ax (by simpa using h)]at this;exact this
theorem oO (h:48<=u.toNat/\u.toNat<=57):dL u=3:=by
 unfold dL ki;rw[ap (by omega),ap (by omega),ax (by omega)]
theorem I0 (h:n<=4294967295) (hr:WE rest):df (ru n++rest) [⟨2,ru n⟩] rest:=by
 obtain⟨i,o,j,w,k⟩:=pT h;obtain⟨u,r,hd⟩:=List.exists_cons_of_ne_nil o;have a:∀v∈ru n,([3]:List Int).contains (dL v)=true:=λv hv=>by rw[oO (j v hv)];rfl
 have hn:dI [3] (ru n++rest)=(ru n).length:=by
  unfold dI;rw[uh a];intro v q e;have:=(hr v q e).2;simp[this]
 have b:dL u=3:=oO (j u (by rw[hd];exact aL ..));have t:dI [2] rest=0:=by
  unfold dI;cases rest with
  | nil=>rfl
  | cons v q=>rw[ei];simp[(hr v q rfl).1]
 rw[hd]at hn i k;rw[hd];refine df.step (c:=u) (r:=r++rest) ?_ (by simp);unfold dx;simp only;rw[ap (by rw[qO (.inr b)];decide),ap (by rw[b];decide),ap (by rw[b];decide),ax b];have f:dI [3] (u::(r++rest))=(u::r).length:=hn;have l:(u::(r++rest)).take (u::r).length=u::r:=yu (u::r) rest;have m:(u::(r++rest)).drop (u::r).length=rest:=zy (u::r) rest;rw[f,l,m,t,i];rw[ap,ap (by omega)];rintro(⟨e,p⟩|p)
 ·rcases k with⟨y,x,d,g⟩|s
  ·injection d with d _
   subst d;exact g (by rw[e];rfl)
  ·omega
 ·omega
theorem ck {c:UInt8} (hk:dL c=4) (hr:SE rest):df (c::rest) [tS [c]] rest:=by
 have d:jJ (c::rest)=false:=by
  unfold jJ;cases rest with
  | nil=>simp[List.isPrefixOf]
  | cons u q =>
   have:=hr u q rfl;have a:u≠47:=λe=>this (by rw[e];decide);simp[List.isPrefixOf]
   exactλ_ e=>a e.symm
 have f:oK (c::rest)=false:=by
  unfold oK;cases rest with
  | nil=>simp
  | cons u q =>
   have a:=hr u q rfl;have:lp.contains ((c::u::q).take 2)=false:=by
    show lp.contains [c,u]=false;cases hc:lp.contains [c,u]with
    | false=>rfl
    | true =>
     exfalso
     have g:[c,u]∈lp:=by simpa using hc
     have:∀t∈lp,(match t with|[_,b]=>decide (b∈([124,38,61,60,62,47]:Tx))|_=>false)=true:=by decide
     exact a (bm (this _ g))
   rw[this];simp
 refine df.step ?_ (ag _);unfold dx;simp only;rw[ap (by rw[d];decide),ap (by rw[hk];decide),ap (by rw[hk];decide),ap (by rw[hk];decide),ax hk,ap (by rw[f];decide)];rfl
theorem CV {a b:UInt8} (h:[a,b]∈lp):df (a::b::rest) [tS [a,b]] rest:=by
 have:∀t∈lp,(match t with|[x,y]=>decide (dL x=4/\¬x=47)|_=>false)=true:=by decide
 obtain⟨c,hn⟩:=bm (this _ h);have d:jJ (a::b::rest)=false:=by
  unfold jJ;have:¬(47=a):=λe=>hn e.symm;simp[List.isPrefixOf,this]
 have f:oK (a::b::rest)=true:=by
  unfold oK;have:lp.contains ((a::b::rest).take 2)=true:=by show lp.contains [a,b]=true;simpa using h
  rw[this];simp
 refine df.step (r:=b::rest) ?_ (by simp);unfold dx;simp only;rw[ap (by rw[d];decide),ap (by rw[c];decide),ap (by rw[c];decide),ap (by rw[c];decide),ax c,ax f];rfl
theorem eh {c:UInt8} (h:c=32\/c=10\/c=9):df (c::rest) [] rest:=by
 refine df.skip ?_ (ag _);unfold dx;simp only;have a:jJ (c::rest)=false:=by
  unfold jJ;rcases h with rfl|rfl|rfl<;>(cases rest<;>simp[List.isPrefixOf])
 rw[ap (by rw[a];decide),ax (by rcases h with rfl|rfl|rfl<;>decide)]
theorem y9 (d:Nat) (rest:Tx):df (tabs d++rest) [] rest:=by
 induction d with
 | zero=>exact df.refl _
 | succ d ih =>
  have e:tabs (d+1)++rest=9::(tabs d++rest):=by unfold tabs;rw[List.replicate_succ];rfl
  rw[e];exact(eh (.inr (.inr rfl))).trans ih
theorem KL {t:Tx} (h:binds t≠0):df (t++32::rest) [tS t] (32::rest):=by
 have j:t∈iQ.map (·.1):=by
  unfold binds at h;cases hq:iQ.find? λr=>decide (r.1=t)with
  | none=>rw[hq]at h;exact absurd rfl h
  | some r =>
   have f:=dR hq;have d:=yg hq;exact bM.2 ⟨r,f,bm d⟩
 have g:∀t∈iQ.map (·.1),t∈lp\/(match t with|[c]=>decide (dL c=4)|_=>false)=true:=by decide
 rcases g t j with d|f
 ·have i:∀t∈lp,t.length=2:=by decide
  match t,i t d,d with
  | [a,b],_,d=>exact CV d
 ·match t,f with
  | [c],f=>exact ck (bm f) λu q e=>by injection e with e _;subst e;decide
end Go.Proofs.YtbeaaimcpkogcaaGreatDoor
