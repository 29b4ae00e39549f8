/- Lemmas on the way to the claim. -/
import Derived.Test.YtbeaaimcpkogcaaGreatDoorM04
set_option linter.unusedSimpArgs false
set_option linter.unusedVariables false
set_option maxRecDepth 10000
namespace Go.Proofs.YtbeaaimcpkogcaaGreatDoor
variable {a n:Nat} {us:List (Tx×List Tx)} {placed:List Tx} {u:Tx×List Tx} {l ts:List Tok} {x:Ex} {s s':PS} {f:Fun} {c:UInt8} {b:Tx}
section
open Go
theorem G6 {k:Nat} (ha:a<2^n) (hk:k<=n):a &&& (2^n-1-(2^k-1))=a/2^k*2^k:=by
 have d:2^k<=2^n:=tZ (by decide) hk;have c:1<=2^k:=Nat.one_le_two_pow;apply Nat.eq_of_testBit_eq;intro i;rw[Nat.testBit_and,show 2^n-1-(2^k-1)=2^n-((2^k-1)+1) by omega,Nat.testBit_two_pow_sub_succ (by omega),Nat.testBit_two_pow_sub_one,Nat.testBit_mul_two_pow,Nat.testBit_div_two_pow]
 by_cases hik:i<k
 ·have:¬k<=i:=by omega
  simp[hik,this]
 ·have b:k<=i:=by omega
  have e:i-k+k=i:=by omega
  by_cases hin:i<n
  ·simp[hik,hin,b,e]
  ·have:a.testBit i=false:=Nat.testBit_lt_two_pow (bu ha (tZ (by decide) (by omega)))
   simp[this,e]
theorem M3 (a k:Nat) (ha:a<4294967296) (hk:k<=32):bits .andNot .u32 (a:Int) ((2^k-1:Nat):Int)=((a/2^k*2^k:Nat):Int):=by
 have b:2^k<=2^32:=tZ (by decide) hk;rw[u32_andNot_nat a (2^k-1) ha (by omega)];rw[show(4294967295:Nat)=2^32-1 by decide,G6 (by simpa using ha) hk]
theorem MK (a k:Nat) (ha:a<18446744073709551616) (hk:k<=64):bits .andNot .u64 (a:Int) ((2^k-1:Nat):Int)=((a/2^k*2^k:Nat):Int):=by
 have b:2^k<=2^64:=tZ (by decide) hk;rw[u64_andNot_nat a (2^k-1) ha (by omega)];rw[show(18446744073709551615:Nat)=2^64-1 by decide,G6 (by simpa using ha) hk]
end
def BO:Tx:=[102,117,110,99,32,109,97,105,110,40,41,32,123,32,111,117,116,32,55,59,32,125]
def qk:List Fun:=[⟨[109,97,105,110],[],false,[.out (.num 7)]⟩]
def Gv:List Tok:=[⟨4,[102,117,110,99]⟩,⟨1,[109,97,105,110]⟩,⟨3,[40]⟩,⟨3,[41]⟩,⟨3,[123]⟩,⟨4,[111,117,116]⟩,⟨2,[55]⟩,⟨3,[59]⟩,⟨3,[125]⟩,⟨5,[]⟩]
theorem BN:gI BO=some Gv:=by decide
theorem Ac:gr 50 [] ⟨Gv,0⟩=some qk:=by rfl
theorem wA:eJ qk=some [0]:=by rfl
theorem Ad:(mo qk [0]).map (λr=>(r.1.length,r.2))=some (9,256):=by rfl
def yf (us:List (Tx×List Tx)):List Tx->List Nat->Prop
 | _,[]=>True
 | placed,i::l=>∃u,us[i]?=some u/\(∀g∈u.2,g∈placed)/\u.1 ∉ placed/\yf us (u.1::placed) l
def rM (us:List (Tx×List Tx)) (placed:List Tx):List Nat->List Tx
 | []=>placed
 | i::l=>rM us (match us[i]? with|some u=>u.1::placed|none=>placed) l
theorem Ah {i:Nat} (h:j8 us placed=some i):∃u,us[i]?=some u/\(∀g∈u.2,g∈placed)/\u.1 ∉ placed:=by
 unfold j8 at h;obtain⟨b,a,_⟩:=List.findIdx?_eq_some_iff_getElem.1 h;refine⟨us[i],aw b,?_,?_⟩
 ·simp only[bH,fZ,M6,bw]at a
  exact a.1
 ·simp only[bH,fZ,M6,bw,Bool.not_eq_true',decide_eq_false_iff_not]at a
  exact a.2
theorem Ai (h:j8 us placed=none) (hu:u∈us) (hn:u.1 ∉ placed):∃g∈u.2,g ∉ placed:=by
 unfold j8 at h;have:=List.findIdx?_eq_none_iff.1 h u hu
 by_cases hx:∃g∈u.2,g ∉ placed
 ·exact hx
 ·exfalso
  have a:(u.2.all λg=>placed.contains g)=true:=by
   rw[fZ];intro g b
   by_cases hm:g∈placed
   ·simpa using hm
   ·exact absurd ⟨g,b,hm⟩ hx
  rw[a]at this;simp at this;exact hn this
theorem jK:∀{l S:List Tx},l.Nodup->(∀x∈l,x∈S)->l.length<=S.length
 | [],_,_,_=>aV _
 | a::l,S,h,hs=>by
  have hn:=oV.1 h;have b:=hs a (aL ..);have:=jK (l:=l) (S:=S.erase a) hn.2 λx hx=>by
   refine(List.mem_erase_of_ne ?_).2 (hs x (aP _ hx));intro e;subst e;exact hn.1 hx
  rw[List.length_erase_of_mem b]at this;have c:1<=S.length:=bc.2 (λe=>by rw[e]at b;cases b);rw[aC];omega
theorem sO {us:List (Tx×List Tx)}:∀{l:List Nat} {placed:List Tx},yf us placed l->placed.Nodup->(∀x∈placed,x∈us.map (·.1)) ->
  (rM us placed l).Nodup/\(∀x∈rM us placed l,x∈us.map (·.1))/\(rM us placed l).length=placed.length+l.length
 | [],_,_,hn,hs=>⟨hn,hs,rfl⟩
 | i::l,placed,h,hn,hs=>by
  obtain⟨u,b,k,c,d⟩:=h;unfold rM;rw[b];have e:u∈us:=aJ b;obtain⟨f,g,j⟩:=sO d (oV.2 ⟨c,hn⟩) λx a=>by
   rcases aR.1 a with rfl|a
   ·exact bM.2 ⟨u,e,rfl⟩
   ·exact hs x a
  exact⟨f,g,by rw[j];simp;omega⟩
theorem Fd {l:List Nat} (h:yf us [] l) (hl:l.length=us.length) {x:Tx} (hx:x∈us.map (·.1)):x∈rM us [] l:=by
 obtain⟨b,c,d⟩:=sO h Ee (λx hx=>by cases hx)
 by_cases hm:x∈rM us [] l
 ·exact hm
 ·have:=jK (oV.2 ⟨hm,b⟩) (S:=us.map (·.1)) λy a=>by
   rcases aR.1 a with rfl|a
   ·exact hx
   ·exact c y a
  rw[aC,d,be]at this;simp at this;omega
theorem Kz {l:List Nat} (h:yf us [] l):l.length<=us.length:=by
 obtain⟨a,b,c⟩:=sO h Ee (λx hx=>by cases hx);have:=jK a b;rw[c,be]at this
 simpa using this
theorem yO (us:List (Tx×List Tx)):∀(n:Nat) (placed:List Tx) (out:List Nat),placed.Nodup->(∀x∈placed,x∈us.map (·.1))->us.length<n+placed.length ->
  ∃l,jc us n placed out=out++l/\yf us placed l/\j8 us (rM us placed l)=none
 | 0,placed,out,hn,hs,hl=>by
  have:=jK hn hs;rw[be]at this;omega
 | n+1,placed,out,hn,hs,hl=>by
  rw[jc];cases hr:j8 us placed with
  | none=>exact⟨[],by simp,trivial,hr⟩
  | some i =>
   obtain⟨u,a,d,c⟩:=Ah hr;simp only[a];have e:u∈us:=aJ a;obtain⟨l,f,g,h⟩:=yO us n (u.1::placed) (out++[i]) (oV.2 ⟨c,hn⟩) (λx b=>by
    rcases aR.1 b with rfl|b
    ·exact bM.2 ⟨u,e,rfl⟩
    ·exact hs x b) (by rw[aC];omega)
   refine⟨i::l,by rw[f];simp,⟨u,a,d,c,g⟩,?_⟩;unfold rM;rw[a];exact h
inductive Rch (us:List (Tx×List Tx)):Tx->Tx->Prop
 | one {u:Tx×List Tx} {g:Tx} (hu:u∈us) (hg:g∈u.2):Rch us u.1 g
 | step {a b c:Tx} (h:Rch us a b) (k:Rch us b c):Rch us a c
def Way (us:List (Tx×List Tx)):List Tx->Prop
 | []=>True
 | [_]=>True
 | b::a::l=>Rch us a b/\Way us (a::l)
theorem Way.rch:∀{l:List Tx} {b x:Tx},Way us (b::l)->x∈l->Rch us x b
 | [],_,_,_,h=>by cases h
 | a::l,b,x,hw,h=>by
  unfold Way at hw;rcases aR.1 h with rfl|h
  ·exact hw.1
  ·exact(Way.rch hw.2 h).step hw.1
theorem B5 (us:List (Tx×List Tx)) (S:List Tx) (hS:∀a∈S,∃b∈S,Rch us a b):∀(n:Nat) (b:Tx) (l:List Tx),(∀x∈b::l,x∈S)->(b::l).Nodup->Way us (b::l)->S.length<n+(b::l).length->∃a∈S,Rch us a a
 | 0,b,l,h1,h2,h3,h4=>by have:=jK h2 h1;omega
 | n+1,b,l,h1,h2,h3,h4=>by
  obtain⟨c,e,f⟩:=hS b (h1 b (aL ..))
  by_cases d:c∈b::l
  ·rcases aR.1 d with rfl|d
   ·exact⟨c,e,f⟩
   ·exact⟨c,e,(Way.rch h3 d).step f⟩
  ·refine B5 us S hS n c (b::l) (λx g=>?_) (oV.2 ⟨d,h2⟩) ⟨f,h3⟩ (by rw[aC];omega)
   rcases aR.1 g with rfl|g
   ·exact e
   ·exact h1 x g
theorem B4 (us:List (Tx×List Tx)) (hus:∀u∈us,∀g∈u.2,∃v∈us,v.1=g) (P:List Tx) (hr:j8 us P=none) (hu:u∈us) (hn:u.1 ∉ P):∃v∈us,Rch us v.1 v.1:=by
 have i:∀a∈(us.map (·.1)).filter (λx=>decide (x ∉ P)),∃b∈(us.map (·.1)).filter (λx=>decide (x ∉ P)),Rch us a b:=by
  intro a c;rw[Mx,bM]at c;obtain⟨⟨v,d,rfl⟩,j⟩:=c;obtain⟨g,h,e⟩:=Ai hr d (bm j);obtain⟨z,k,rfl⟩:=hus v d g h;exact⟨z.1,Mx.2 ⟨bM.2 ⟨z,k,rfl⟩,dr e⟩,.one d h⟩
 obtain⟨a,c,f⟩:=B5 us _ i _ u.1 [] (λx hx=>by
  rw[aZ]at hx;subst hx;exact Mx.2 ⟨bM.2 ⟨u,hu,rfl⟩,dr hn⟩) (by simp) trivial (Nat.lt_add_of_pos_right (by simp))
 rw[Mx,bM]at c;obtain⟨⟨v,d,rfl⟩,_⟩:=c;exact⟨v,d,f⟩
theorem uJ (us:List (Tx×List Tx)) (hnd:(us.map (·.1)).Nodup) (hus:∀u∈us,∀g∈u.2,∃v∈us,v.1=g):yf us [] (jc us (us.length+1) [] [])/\((jc us (us.length+1) [] []).length=us.length\/((jc us (us.length+1) [] []).length<us.length/\∃v∈us,Rch us v.1 v.1)):=by
 obtain⟨l,b,a,c⟩:=yO us (us.length+1) [] [] Ee (λx hx=>by cases hx) (by simp);rw[b,bh];refine⟨a,?_⟩;have d:=Kz a
 by_cases he:l.length=us.length
 ·exact .inl he
 ·refine .inr ⟨by omega,?_⟩
  by_cases hx:∃u∈us,u.1 ∉ rM us [] l
  ·obtain⟨u,e,hn⟩:=hx
   exact B4 us hus _ c e hn
  ·exfalso
   obtain⟨i,j,h⟩:=sO a Ee (λx hx=>by cases hx);have:=jK hnd (S:=rM us [] l) λy hy=>by
    obtain⟨v,f,rfl⟩:=bM.1 hy
    by_cases hm:v.1∈rM us [] l
    ·exact hm
    ·exact absurd ⟨v,f,hm⟩ hx
   rw[be,h]at this;simp at this;omega
def tq:Sm->Bool
 | .iff _ _ _=>true
 | _=>false
def jB:List Sm->Bool
 | [x]=>tq x
 | _=>false
mutual
def mY:Sm->Nat
 | .var _ _ none=>0
 | .var _ _ (some r)=>gC r
 | .set _ r=>gC r
 | .cell l r=>max (gC l) (gC r)
 | .iff r a b=>max (gC r) (max (1+iE a) (if b.isEmpty=true then 0 else if jB b=true then iE b else 1+iE b))
 | .whl r a=>max (gC r) (1+iE a)
 | .out r=>gC r
 | .free r=>gC r
 | .drain=>0
 | .ret none=>0
 | .ret (some r)=>gC r
 | .call r=>gC r
def iE:List Sm->Nat
 | []=>0
 | x::xs=>max (mY x) (iE xs)
end
mutual
def SmP:Sm->Prop
 | .var n _ none=>fe n
 | .var n _ (some r)=>fe n/\ExP r
 | .set n r=>fe n/\ExP r
 | .cell l r=>(∃a b,l=.cell a b\/l=.link a b)/\ExP l/\ExP r
 | .iff r a b=>ExP r/\jW a/\jW b
 | .whl r a=>ExP r/\jW a
 | .out r=>ExP r
 | .free r=>ExP r
 | .drain=>True
 | .ret none=>True
 | .ret (some r)=>ExP r
 | .call r=>(∃s args,r=.call s args)/\ExP r
def jW:List Sm->Prop
 | []=>True
 | x::xs=>SmP x/\jW xs
end
structure FunP (f:Fun):Prop where
 name:fe f.name
 pars:∀p∈f.params,fe p.name
 plen:f.params.length<=1000000
 body:jW f.body
 deep:iE f.body<=63
theorem EM {l:List Sm} {x:Sm} (h:jW l) (hx:SmP x):jW (l++[x]):=by
 induction l with
 | nil=>show jW [x];unfold jW;exact⟨hx,by unfold jW;trivial⟩
 | cons y l ih=>unfold jW at h;show jW (y::(l++[x]));unfold jW;exact⟨h.1,ih h.2⟩
theorem AU (l:List Sm) (x:Sm):iE (l++[x])=max (iE l) (mY x):=by
 induction l with
 | nil=>show iE [x]=_;rw[iE,iE,iE];omega
 | cons y l ih=>show iE (y::(l++[x]))=_;rw[iE,iE,ih];omega
theorem nY (hw:Ws s) (h:dy n s=some (x,s')):Gone s s'/\ExP x/\s.d+gC x<=64:=by
 unfold dy at h;obtain⟨r,g,i⟩:=bind_some h;obtain⟨k,j,c⟩:=bind_some i;simp only[aq,aQ]at c;obtain⟨rfl,rfl⟩:=c;obtain⟨b,e,a,_⟩:=(yq n).e 1 s r.1 r.2 hw (by omega) (by omega) g;obtain⟨f,_⟩:=cr b.ws j;exact⟨b.then f.e,e,by rw[kQ e]at a;exact a⟩
theorem Dq (hw:Ws s) (h:cZ n 1 s=some (x,s')):Gone s s'/\ExP x/\s.d+gC x<=64:=by
 obtain⟨c,b,a,_⟩:=(yq n).e 1 s x s' hw (by omega) (by omega) h;exact⟨c,b,by rw[kQ b]at a;exact a⟩
structure VS (n:Nat):Prop where
 b:∀s l s',Ws s->dc n s=some (l,s')->Gone s s'/\jW l/\s.d+1+iE l<=64
 g:∀acc s l s',Ws s->jW acc->s.d+iE acc<=64->dY n acc s=some (l,s')->GoneE s s'/\jW l/\s.d+iE l<=64
 br:∀s x s',Ws s->dz n s=some (x,s')->Gone s s'/\SmP x/\s.d+mY x<=64/\tq x=true
 s:∀s x s',Ws s->ek n s=some (x,s')->Gone s s'/\SmP x/\s.d+mY x<=64
theorem Hq:VS 0:=by
 refine⟨?_,?_,?_,?_⟩<;>intros<;>rename_i h<;>simp[dc,dY,dz,ek]at h
theorem Hr (h:VS n):VS (n+1):=by
 refine⟨?_,?_,?_,?_⟩
 ·intro s l M u d
  rw[dc]at d;obtain⟨q1,q2,_,X,T,S,a0,Y,hg,_,_⟩:=iT u d;obtain⟨r,A,k⟩:=bind_some Y;obtain⟨p,g,b⟩:=bind_some k;simp only[aq,aQ]at b;obtain⟨rfl,rfl⟩:=b;obtain⟨f,i,m⟩:=h.g [] q1 r.1 r.2 T (by unfold jW;trivial) (by rw[iE];omega) A;obtain⟨o,_⟩:=cr f.ws g;exact⟨hg (f.then o).e,i,by rw[S]at m;exact m⟩
 ·intro P s l M u Z hd d
  rw[dY]at d;split at d
  ·cases d
   exact⟨GoneE.refl u,Z,hd⟩
  ·obtain⟨r,A,k⟩:=bind_some d
   obtain⟨y,B⟩:=r;obtain⟨f,i,m⟩:=h.s s y B u A;obtain⟨o,H,I⟩:=h.g (P++[y]) B l M f.ws (EM Z i) (by rw[AU,f.d];omega) k;exact⟨(f.then o).e,H,by rw[<- f.d];exact I⟩
 ·intro s x M u d
  rw[dz]at d;obtain⟨r,A,k⟩:=bind_some d;obtain⟨c,B⟩:=r;obtain⟨q,g,b⟩:=bind_some k;obtain⟨a,p⟩:=q;obtain⟨f,i,m⟩:=Dq u A;obtain⟨o,H,I⟩:=h.b B a p f.ws g;have v:=f.then o.e;rw[f.d]at I;split at b
  ·rename_i he
   have t:=o.ws.step (cK he).1;have F:=v.then t.e;split at b
   ·rename_i hi
    obtain⟨z,R,L⟩:=bind_some b;obtain⟨y,V⟩:=z;simp only[aq,aQ]at L;obtain⟨rfl,rfl⟩:=L;have W:=t.ws.step (cK hi).1;have K:=F.then W.e;obtain⟨Q,U,O,i5⟩:=h.br _ y V W.ws R;rw[K.d]at O;refine⟨K.then Q.e,by unfold SmP;exact⟨i,H,by unfold jW;exact⟨U,by unfold jW;trivial⟩⟩,?_,rfl⟩;have e1:jB [y]=true:=i5;rw[mY,e1,iE,iE];simp only[List.isEmpty_cons,bl,gy,tr];omega
   ·obtain⟨z,R,L⟩:=bind_some b
    obtain⟨y,V⟩:=z;simp only[aq,aQ]at L;obtain⟨rfl,rfl⟩:=L;obtain⟨Q,U,O⟩:=h.b _ y V t.ws R;rw[F.d]at O;refine⟨F.then Q.e,by unfold SmP;exact⟨i,H,U⟩,?_,rfl⟩;rw[mY];split
    ·omega
    ·split<;>omega
  ·cases b
   refine⟨v,by unfold SmP;exact⟨i,H,by unfold jW;trivial⟩,?_,rfl⟩;rw[mY];simp only[List.isEmpty_nil,tr];omega
 ·intro s x M u d
  rw[ek]at d;split at d
  ·rename_i Y
   have j:=u.step (by omega);split at d
   ·obtain⟨r,A,k⟩:=bind_some d
    obtain⟨nm,B⟩:=r;obtain⟨f,hn⟩:=ju j.ws A;have D:=j.then f.e;have N:=D.then (jZ (w:=cY) f.ws);split at k
    ·rename_i he
     obtain⟨e,g,b⟩:=bind_some k;obtain⟨y,p⟩:=e;simp only[aq,aQ]at b;obtain⟨rfl,rfl⟩:=b;have o:=N.ws.step (cK he).1;have J:=N.then o.e;obtain⟨t,E,C⟩:=nY o.ws g;exact⟨J.then t.e,by unfold SmP;exact⟨hn,E⟩,by rw[J.d]at C;rw[mY];exact C⟩
    ·obtain⟨p,g,b⟩:=bind_some k
     simp only[aq,aQ]at b;obtain⟨rfl,rfl⟩:=b;obtain⟨o,_⟩:=cr N.ws g;exact⟨N.then o.e,by unfold SmP;exact hn,by rw[mY];have:=u.deep;omega⟩
   ·split at d
    ·obtain⟨f,i,m,_⟩:=h.br _ x M j.ws d
     exact⟨j.then f.e,i,by rw[j.d]at m;exact m⟩
    ·split at d
     ·obtain⟨r,A,k⟩:=bind_some d
      obtain⟨c,B⟩:=r;obtain⟨q,g,b⟩:=bind_some k;obtain⟨a,p⟩:=q;simp only[aq,aQ]at b;obtain⟨rfl,rfl⟩:=b;obtain⟨f,i,m⟩:=Dq j.ws A;obtain⟨o,H,I⟩:=h.b B a p f.ws g;have D:=j.then f.e;rw[D.d]at I;rw[j.d]at m;exact⟨D.then o.e,by unfold SmP;exact⟨i,H⟩,by rw[mY];omega⟩
     ·split at d
      ·obtain⟨e,g,b⟩:=bind_some d
       obtain⟨y,p⟩:=e;simp only[aq,aQ]at b;obtain⟨rfl,rfl⟩:=b;obtain⟨f,i,m⟩:=nY j.ws g;exact⟨j.then f.e,by unfold SmP;exact i,by rw[j.d]at m;rw[mY];exact m⟩
      ·split at d
       ·obtain⟨e,g,b⟩:=bind_some d
        obtain⟨y,p⟩:=e;simp only[aq,aQ]at b;obtain⟨rfl,rfl⟩:=b;obtain⟨f,i,m⟩:=nY j.ws g;exact⟨j.then f.e,by unfold SmP;exact i,by rw[j.d]at m;rw[mY];exact m⟩
       ·split at d
        ·obtain⟨p,g,b⟩:=bind_some d
         simp only[aq,aQ]at b;obtain⟨rfl,rfl⟩:=b;obtain⟨o,_⟩:=cr j.ws g;exact⟨j.then o.e,by unfold SmP;trivial,by rw[mY];have:=u.deep;omega⟩
        ·split at d
         ·split at d
          ·rename_i he
           cases d;exact⟨j.then (j.ws.step (cK he).1).e,by unfold SmP;trivial,by rw[mY];have:=u.deep;omega⟩
          ·obtain⟨e,g,b⟩:=bind_some d
           obtain⟨y,p⟩:=e;simp only[aq,aQ]at b;obtain⟨rfl,rfl⟩:=b;obtain⟨f,i,m⟩:=nY j.ws g;exact⟨j.then f.e,by unfold SmP;exact i,by rw[j.d]at m;rw[mY];exact m⟩
         ·cases d
  ·obtain⟨r,A,k⟩:=bind_some d
   obtain⟨l,B⟩:=r;obtain⟨f,i,m⟩:=(yq n).p s l B u A;have d1:s.d+gC l<=64:=by have:=m 1 (by omega);rw[kQ i]at this;exact this
   split at k
   ·rename_i he
    have o:=f.ws.step (cK he).1;have v:=f.then o.e;have G:∀{y p},dy n (aS B)=some (y,p)->Gone s p/\ExP y/\s.d+gC y<=64:=λ{y p} g=>by
     obtain⟨t,E,C⟩:=nY o.ws g;exact⟨v.then t.e,E,by rw[v.d]at C;exact C⟩
    split at k
    ·obtain⟨e,g,b⟩:=bind_some k
     obtain⟨y,p⟩:=e;simp only[aq,aQ]at b;obtain⟨rfl,rfl⟩:=b;obtain⟨t,E,C⟩:=G g;rename_i nm hl;simp only at hl;subst hl;exact⟨t,by unfold SmP;unfold ExP at i;exact⟨i,E⟩,by rw[mY];exact C⟩
    ·obtain⟨e,g,b⟩:=bind_some k
     obtain⟨y,p⟩:=e;simp only[aq,aQ]at b;obtain⟨rfl,rfl⟩:=b;obtain⟨t,E,C⟩:=G g;rename_i ca cb hl;simp only at hl;subst hl;exact⟨t,by unfold SmP;exact⟨⟨_,_,.inl rfl⟩,i,E⟩,by rw[mY];omega⟩
    ·obtain⟨e,g,b⟩:=bind_some k
     obtain⟨y,p⟩:=e;simp only[aq,aQ]at b;obtain⟨rfl,rfl⟩:=b;obtain⟨t,E,C⟩:=G g;rename_i ca cb hl;simp only at hl;subst hl;exact⟨t,by unfold SmP;exact⟨⟨_,_,.inr rfl⟩,i,E⟩,by rw[mY];omega⟩
    ·cases k
   ·split at k
    ·obtain⟨p,g,b⟩:=bind_some k
     simp only[aq,aQ]at b;obtain⟨rfl,rfl⟩:=b;rename_i ca cb hl;simp only at hl;subst hl;obtain⟨o,_⟩:=cr f.ws g;exact⟨f.then o.e,by unfold SmP;exact⟨⟨_,_,rfl⟩,i⟩,by rw[mY];exact d1⟩
    ·cases k
theorem Gr:∀n,VS n
 | 0=>Hq
 | n+1=>Hr (Gr n)
theorem qy:∀(n:Nat) (b:Bool) (acc:List Par) (s:PS) (l:List Par) (s':PS),Ws s->(∀p∈acc,fe p.name)->fI n b acc s=some (l,s')->GoneE s s'/\(∀p∈l,fe p.name)/\l.length+s'.ts.length<=acc.length+s.ts.length
 | 0,_,_,_,_,_,_,_,h=>by simp[fI]at h
 | n+1,b,acc,s,l,s',hw,hp,h=>by
  rw[fI]at h;split at h
  ·cases h
   exact⟨GoneE.refl hw,hp,ag _⟩
  ·obtain⟨t,d,j⟩:=bind_some h
   obtain⟨r,k,m⟩:=bind_some j;obtain⟨nm,u⟩:=r;have e:GoneE s t:=by
    split at d
    ·cases d;exact GoneE.refl hw
    ·exact(cr hw d).1.e
   obtain⟨f,hn⟩:=ju e.ws k;have c:=(e.then f).then (jZ (w:=cY) f.ws);have o:=c.lt;obtain⟨i,q,g⟩:=qy n false _ _ l s' c.ws (λp a=>by
    rcases aU.1 a with a|a
    ·exact hp p a
    ·rw[aZ]at a;subst a;exact hn) m
   rw[ac]at g;have v:l.length+s'.ts.length<=acc.length+1+(cF cY u).2.ts.length:=g;exact⟨(c.then i).e,q,by omega⟩
theorem xy (hw:Ws s) (hd:s.d=0) (h:dl n s=some (f,s')):Gone s s'/\FunP f:=by
 unfold dl at h;obtain⟨V,z,A⟩:=bind_some h;obtain⟨r,B,C⟩:=bind_some A;obtain⟨nm,W⟩:=r;obtain⟨m,_⟩:=cr hw z;obtain⟨o,hn⟩:=ju m.ws B;have g:=m.then o.e;obtain⟨Q,D,E⟩:=bind_some C;obtain⟨l,X⟩:=Q;obtain⟨P,U,_,u,e,I,L,K,J,_,_⟩:=iT o.ws D;obtain⟨k,F,G⟩:=bind_some K;obtain⟨Y,H,a⟩:=bind_some G;simp only[aq,aQ]at a;obtain⟨rfl,rfl⟩:=a;obtain⟨q,N,M⟩:=qy n true [] P k.1 k.2 e (λp hm=>by cases hm) F;obtain⟨x,_⟩:=cr q.ws H;have t:=g.then (J (q.then x).e).e;have i:=t.then (jZ (w:=cY) t.ws);obtain⟨R,j,c⟩:=bind_some E;obtain⟨b,S⟩:=R;simp only[aq,aQ]at c;obtain⟨rfl,rfl⟩:=c;obtain⟨y,O,v⟩:=(Gr n).b _ b S i.ws j;have T:=e.len;rw[i.d,hd]at v;refine⟨i.then y.e,hn,N,?_,O,?_⟩
 ·simp at M;show k.1.length<=_;omega
 ·show iE b<=63;omega
theorem Cb:∀(n:Nat) (acc:List Fun) (s:PS) (l:List Fun),Ws s->s.d=0->(∀f∈acc,FunP f)->gr n acc s=some l->(∀f∈l,FunP f)/\l.length<=acc.length+s.ts.length
 | 0,_,_,_,_,_,_,h=>by simp[gr]at h
 | n+1,acc,s,l,hw,hd,hp,h=>by
  rw[gr]at h;split at h
  ·cases h;exact⟨hp,by omega⟩
  ·obtain⟨r,g,i⟩:=bind_some h
   obtain⟨f,e⟩:=r;obtain⟨b,j⟩:=xy hw hd g;obtain⟨k,c⟩:=Cb n _ e l b.ws (b.d.trans hd) (λx a=>by
    rcases aU.1 a with a|a
    ·exact hp x a
    ·rw[aZ]at a;subst a;exact j) i
   have:=b.lt;rw[ac]at c;have m:l.length<=acc.length+1+e.ts.length:=c;exact⟨k,by omega⟩
def FX:Nat->Nat->Tx->Tx
 | 0,_,acc=>acc
 | f+1,n,acc=>if n<10 then UInt8.ofNat (48+n)::acc else FX f (n/10) (UInt8.ofNat (48+n%10)::acc)
def ru (n:Nat):Tx:=FX 20 n []
abbrev tS (t:Tx):Tok:=⟨3,t⟩
abbrev tK (t:Tx):Tok:=⟨4,t⟩
def par (b:Bool) (l:List Tok):List Tok:=if b=true then tS cD::(l++[tS bR])else l
def uD (x:Ex) (c:Int) (l:List Tok):List Tok:=par (decide (lvl x<c)) l
mutual
def co:Ex->List Tok
 | .num n=>[⟨2,ru n⟩]
 | .name s=>[⟨1,s⟩]
 | .un t r=>tS t::uD r 7 (co r)
 | .bin t l r=>uD l (binds t) (co l)++tS t::uD r (binds t+1) (co r)
 | .call s args=>⟨1,s⟩::tS cD::(iY true args++[tS bR])
 | .cell l r=>uD l 8 (co l)++tS ss::(co r++[tS A4])
 | .link l r=>uD l 8 (co l)++tS jo::(if gh r=true then co r else tS cD::(co r++[tS bR]))
 | .new l=>tK ri::tS cD::(co l++[tS bR])
 | .inp=>[tK wIn,tS cD,tS bR]
def iY:Bool->List Ex->List Tok
 | _,[]=>[]
 | b,x::xs=>(if b=true then[]else[tS fy])++(co x++iY false xs)
end
def exK (x:Ex) (c:Int):List Tok:=uD x c (co x)
def Ev {α:Type} (f:Nat->Option α) (r:α):Prop:=∃N,∀n,N<=n->f n=some r
theorem Ev.of {α:Type} {f:Nat->Option α} {r:α} (h:∀n,f n=some r):Ev f r:=⟨0,λn _=>h n⟩
theorem Ev.succ {α β:Type} {f:Nat->Option α} {g:Nat->Option β} {r:α} {q:β} (h:Ev f r) (hg:∀n,f n=some r->g (n+1)=some q):Ev g q:=by
 obtain⟨N,a⟩:=h;refine⟨N+1,λn hn=>?_⟩;obtain⟨m,rfl⟩:∃m,n=m+1:=⟨n-1,by omega⟩;exact hg m (a m (by omega))
def isT (w:Tx) (t:Tok):Bool:=(decide (t.kind=4)||decide (t.kind=3))&&decide (t.text=w)
def Nb (l:List Tok):Prop:=∃t r,l=t::r/\isT ss t=false/\isT jo t=false/\isT cD t=false
def Lo (m:Int) (l:List Tok):Prop:=∀t r,l=t::r->t.kind=3->binds t.text<=m
def No (l:List Tok):Prop:=∃t r,l=t::r/\isT cD t=false
theorem Nb.ne (h:Nb l):l≠[]:=by obtain⟨t,r,rfl,_⟩:=h;simp
theorem Nb.no (h:Nb l):No l:=by obtain⟨t,r,rfl,_,_,h⟩:=h;exact⟨t,r,rfl,h⟩
theorem No.ne (h:No l):l≠[]:=by obtain⟨t,r,rfl,_⟩:=h;simp
structure PX (x:Ex):Prop where
 a:∀(rest:List Tok) (d:Nat) (r:Ex×PS),No rest->d+lc x 8<=64->Ev (λn=>gT n x ⟨rest,d⟩) r->Ev (λn=>fU n ⟨exK x 8++rest,d⟩) r
 s:∀(rest:List Tok) (d:Nat),Nb rest->d+lc x 7<=64->Ev (λn=>gl n ⟨exK x 7++rest,d⟩) (x,⟨rest,d⟩)
 b:∀(c m:Int) (rest:List Tok) (d:Nat) (r:Ex×PS),1<=c->c<=m->m<=7->Nb rest->Lo m rest->d+lc x m<=64->Ev (λn=>ib n c x ⟨rest,d⟩) r->Ev (λn=>cZ n c ⟨exK x m++rest,d⟩) r
def Stp (c:Int) (l:List Tok):Prop:=∀t r,l=t::r->t.kind=3->binds t.text=0\/binds t.text<c
theorem Stp.lo {c:Int} (h:Stp c l) (hc:0<=c):Lo c l:=λt r e hk=>by rcases h t r e hk with q|q<;>omega
theorem rY:∀(l:List Ex) (x:Ex),gZ (l++[x])=gZ l+cN x
 | [],x=>by simp[gZ]
 | y::l,x=>by rw[bB,gZ,gZ,rY l x];omega
theorem rG:∀(l:List Sm) (x:Sm),bL (l++[x])=bL l+cP x
 | [],x=>by simp[bL]
 | y::l,x=>by rw[bB,bL,bL,rG l x];omega
structure VZ (n:Nat):Prop where
 e:∀c s x s',Ws s->cZ n c s=some (x,s')->Gone s s'/\cN x+s'.ts.length<=s.ts.length
 l:∀c x s y s',Ws s->ib n c x s=some (y,s')->GoneE s s'/\cN y+s'.ts.length<=cN x+s.ts.length
 s:∀s x s',Ws s->gl n s=some (x,s')->Gone s s'/\cN x+s'.ts.length<=s.ts.length
 w:∀a b s x s',Ws s->eS n a b s=some (x,s')->Gone s s'/\cN x+s'.ts.length+1<=s.ts.length
 p:∀s x s',Ws s->fU n s=some (x,s')->Gone s s'/\cN x+s'.ts.length<=s.ts.length
 pl:∀x s y s',Ws s->gT n x s=some (y,s')->GoneE s s'/\cN y+s'.ts.length<=cN x+s.ts.length
 a:∀s x s',Ws s->dN n s=some (x,s')->Gone s s'/\cN x+s'.ts.length<=s.ts.length
 f:∀s x s',Ws s->dG n s=some (x,s')->Gone s s'/\cN x+s'.ts.length<=s.ts.length
 g:∀b l s r s',Ws s->jT n b l s=some (r,s')->GoneE s s'/\gZ r+s'.ts.length<=gZ l+s.ts.length
theorem Hm:VZ 0:=by
 refine⟨?_,?_,?_,?_,?_,?_,?_,?_,?_⟩<;>intros<;>rename_i h<;>simp[cZ,ib,gl,eS,fU,gT,dN,dG,jT]at h
theorem Hn (h:VZ n):VZ (n+1):=by
 refine⟨?_,?_,?_,?_,?_,?_,?_,?_,?_⟩
 ·intro c s x p f d
  rw[cZ]at d;obtain⟨r,j,i⟩:=bind_some d;obtain⟨y,k⟩:=r;obtain⟨e,A⟩:=h.s s y k f j;obtain⟨m,w⟩:=h.l c y k x p e.ws i;exact⟨e.then m,by omega⟩
 ·intro c x s y p f M
  rw[ib]at M;split at M
  ·cases M
   exact⟨GoneE.refl f,ag _⟩
  ·rename_i hst
   have k3:(hd s).kind=3:=by
    by_cases q:(hd s).kind=3
    ·exact q
    ·exact absurd (.inl q) hst
   obtain⟨r,j,i⟩:=bind_some M;obtain⟨z,k⟩:=r;have o:=f.step (by omega);obtain⟨e,A⟩:=h.e _ _ z k o.ws j;have u:=o.then e.e;obtain⟨m,w⟩:=h.l c (.bin (hd s).text x z) k y p e.ws i;rw[cN]at w;have:=o.lt;exact⟨(u.then m).e,by omega⟩
 ·intro s x p f d
  rw[gl]at d;split at d
  ·obtain⟨r,j,i⟩:=bind_some d
   obtain⟨y,k⟩:=r;simp only[aq,aQ]at i;obtain⟨rfl,rfl⟩:=i;obtain⟨J,K,_,v,t,E,H,B,F,_,I⟩:=iT f j;obtain⟨e,A⟩:=h.s J y K t B;refine⟨F e.e,?_⟩;rw[cN,I];show _+K.ts.length<=_;omega
  ·exact h.p s x p f d
 ·intro a b s x p f d
  rw[eS]at d;obtain⟨J,K,_,v,t,E,H,B,F,_,I⟩:=iT f d;obtain⟨r,j,i⟩:=bind_some B;obtain⟨L,D,C⟩:=bind_some i;simp only[aq,aQ]at C;obtain⟨rfl,rfl⟩:=C;obtain⟨e,A⟩:=h.e 1 J r.1 r.2 t j;obtain⟨m,_⟩:=cr e.ws D;have:=m.lt;refine⟨F (e.then m.e).e,?_⟩;rw[I];show _+L.ts.length+1<=_;omega
 ·intro s x p f d
  rw[fU]at d;obtain⟨r,j,i⟩:=bind_some d;obtain⟨y,k⟩:=r;obtain⟨e,A⟩:=h.f s y k f j;obtain⟨m,w⟩:=h.pl y k x p e.ws i;exact⟨e.then m,by omega⟩
 ·intro x s y p f d
  rw[gT]at d;split at d
  ·obtain⟨r,j,i⟩:=bind_some d
   obtain⟨z,k⟩:=r;obtain⟨e,A⟩:=h.w _ _ s z k f j;obtain⟨m,w⟩:=h.pl (.cell x z) k y p e.ws i;rw[cN]at w;exact⟨(e.then m).e,by omega⟩
  ·split at d
   ·rename_i hc
    obtain⟨r,j,i⟩:=bind_some d;obtain⟨z,k⟩:=r;have o:=f.step (cK hc).1;obtain⟨e,A⟩:=h.a _ z k o.ws j;have u:=o.then e.e;obtain⟨m,w⟩:=h.pl (.link x z) k y p e.ws i;rw[cN]at w;have:=o.lt;exact⟨(u.then m).e,by omega⟩
   ·cases d
    exact⟨GoneE.refl f,ag _⟩
 ·intro s x p f d
  rw[dN]at d;split at d
  ·obtain⟨g,z⟩:=h.w _ _ s x p f d
   exact⟨g,by omega⟩
  ·split at d
   ·rename_i B
    cases d;have g:=f.step (by omega);have:=g.lt;exact⟨g,by rw[cN];omega⟩
   ·obtain⟨r,j,i⟩:=bind_some d
    cases i;obtain⟨g,hn⟩:=ju f j;have:=g.lt;exact⟨g,by rw[cN];omega⟩
 ·intro s x p f d
  rw[dG]at d;split at d
  ·rename_i B
   obtain⟨r,j,i⟩:=bind_some d;cases i;have o:=f.step (cK B).1;obtain⟨e,A⟩:=h.w _ _ _ r.1 r.2 o.ws j;have:=o.lt;exact⟨o.then e.e,by rw[cN];omega⟩
  ·split at d
   ·rename_i B
    obtain⟨r,j,i⟩:=bind_some d;cases i;have o:=f.step (cK B).1;obtain⟨J,K,_,v,t,E,H,G,F,_,I⟩:=iT o.ws j;obtain⟨L,D,C⟩:=bind_some G;cases C;obtain⟨m,_⟩:=cr t D;have Q:=o.then (F m.e).e;have:=Q.lt;exact⟨Q,by rw[cN];omega⟩
   ·obtain⟨r,j,i⟩:=bind_some d
    obtain⟨y,k⟩:=r;obtain⟨e,A⟩:=h.a s y k f j;split at i
    ·rename_i B
     obtain⟨r2,D,C⟩:=bind_some i;cases C;obtain⟨J,K,_,v,t,E,H,G,F,_,I⟩:=iT e.ws D;obtain⟨Y,U,V⟩:=bind_some G;obtain⟨Z,W,R⟩:=bind_some V;obtain⟨S,t3⟩:=Y;simp only[aq,aQ]at R;obtain⟨N,rfl⟩:=R;obtain⟨m,w⟩:=h.g true [] J S t3 t U;obtain⟨P,_⟩:=cr m.ws W;have O:=F (m.then P).e;have:=P.lt;rw[gZ]at w;have T:=e.lt;refine⟨e.then O.e,?_⟩;rw[cN,I,<- N];show gZ S+1+Z.ts.length<=_;omega
    ·cases i
     exact⟨e,A⟩
 ·intro b l s r p f d
  rw[jT]at d;split at d
  ·cases d
   exact⟨GoneE.refl f,ag _⟩
  ·obtain⟨k,j,i⟩:=bind_some d
   obtain⟨q,D,C⟩:=bind_some i;obtain⟨y,L⟩:=q;have o:GoneE s k:=by
    split at j
    ·cases j;exact GoneE.refl f
    ·exact(cr f j).1.e
   obtain⟨e,A⟩:=h.e 1 k y L o.ws D;have u:=o.then e;have X:=o.le;obtain⟨m,w⟩:=h.g false (l++[y]) L r p e.ws C;rw[rY]at w;exact⟨(u.then m).e,by omega⟩
theorem ue:∀n,VZ n
 | 0=>Hm
 | n+1=>Hn (ue n)
theorem tC (hw:Ws s) (h:dy n s=some (x,s')):Gone s s'/\cN x+s'.ts.length+1<=s.ts.length:=by
 unfold dy at h;obtain⟨r,d,e⟩:=bind_some h;obtain⟨g,f,c⟩:=bind_some e;simp only[aq,aQ]at c;obtain⟨rfl,rfl⟩:=c;obtain⟨a,i⟩:=(ue n).e 1 s r.1 r.2 hw d;obtain⟨b,_⟩:=cr a.ws f;have:=b.lt;exact⟨a.then b.e,by omega⟩
structure VT (n:Nat):Prop where
 b:∀s l s',Ws s->dc n s=some (l,s')->Gone s s'/\bL l+s'.ts.length+2<=s.ts.length
 g:∀acc s l s',Ws s->dY n acc s=some (l,s')->GoneE s s'/\bL l+s'.ts.length<=bL acc+s.ts.length
 br:∀s x s',Ws s->dz n s=some (x,s')->Gone s s'/\cP x+s'.ts.length<=s.ts.length
 s:∀s x s',Ws s->ek n s=some (x,s')->Gone s s'/\cP x+s'.ts.length<=s.ts.length
theorem Ho:VT 0:=by
 refine⟨?_,?_,?_,?_⟩<;>intros<;>rename_i h<;>simp[dc,dY,dz,ek]at h
theorem Hp (h:VT n):VT (n+1):=by
 refine⟨?_,?_,?_,?_⟩
 ·intro s l F A d
  rw[dc]at d;obtain⟨Y,q2,_,S,O,V,X,T,W,_,U⟩:=iT A d;obtain⟨r,u,k⟩:=bind_some T;obtain⟨j,f,b⟩:=bind_some k;simp only[aq,aQ]at b;obtain⟨rfl,rfl⟩:=b;obtain⟨i,B⟩:=h.g [] Y r.1 r.2 O u;obtain⟨g,_⟩:=cr i.ws f;have:=g.lt;rw[bL]at B;refine⟨W (i.then g).e,?_⟩;rw[U];show _+j.ts.length+2<=_;omega
 ·intro H s l F A d
  rw[dY]at d;split at d
  ·cases d
   exact⟨GoneE.refl A,ag _⟩
  ·obtain⟨r,u,k⟩:=bind_some d
   obtain⟨y,t⟩:=r;obtain⟨i,B⟩:=h.s s y t A u;obtain⟨g,R⟩:=h.g (H++[y]) t l F i.ws k;rw[rG]at R;exact⟨(i.then g).e,by omega⟩
 ·intro s x F A d
  rw[dz]at d;obtain⟨r,u,k⟩:=bind_some d;obtain⟨c,t⟩:=r;obtain⟨q,f,b⟩:=bind_some k;obtain⟨a,j⟩:=q;obtain⟨i,B⟩:=(ue n).e 1 s c t A u;obtain⟨g,R⟩:=h.b t a j i.ws f;have v:=i.then g.e;split at b
  ·rename_i he
   have m:=g.ws.step (cK he).1;have C:=v.then m.e;have l3:=m.lt;split at b
   ·rename_i hi
    obtain⟨z,N,E⟩:=bind_some b;obtain⟨y,Q⟩:=z;simp only[aq,aQ]at E;obtain⟨rfl,rfl⟩:=E;have L:=m.ws.step (cK hi).1;have K:=C.then L.e;have l4:=L.lt;obtain⟨M,Z⟩:=h.br _ y Q L.ws N;refine⟨K.then M.e,?_⟩;rw[cP,bL,bL];omega
   ·obtain⟨z,N,E⟩:=bind_some b
    obtain⟨y,Q⟩:=z;simp only[aq,aQ]at E;obtain⟨rfl,rfl⟩:=E;obtain⟨M,Z⟩:=h.b _ y Q m.ws N;refine⟨C.then M.e,?_⟩;rw[cP];omega
  ·cases b
   refine⟨v,?_⟩;rw[cP,bL];show cN c+bL a+0+1+j.ts.length<=_;omega
 ·intro s x F A d
  rw[ek]at d;split at d
  ·rename_i T
   have o:=A.step (by omega);have l0:=o.lt;have p:∀{y j},dy n (aS s)=some (y,j)->Gone s j/\cN y+j.ts.length+2<=s.ts.length:=λ{y j} f=>by
    obtain⟨m,G⟩:=tC o.ws f;exact⟨o.then m.e,by omega⟩
   split at d
   ·obtain⟨r,u,k⟩:=bind_some d
    obtain⟨nm,t⟩:=r;obtain⟨i,hn⟩:=ju o.ws u;have I:=o.then i.e;have D:=I.then (jZ (w:=cY) i.ws);have lt:=D.lt;split at k
    ·rename_i he
     obtain⟨e,f,b⟩:=bind_some k;obtain⟨y,j⟩:=e;simp only[aq,aQ]at b;obtain⟨rfl,rfl⟩:=b;have g:=D.ws.step (cK he).1;have J:=D.then g.e;have P:=g.lt;obtain⟨m,G⟩:=tC g.ws f;exact⟨J.then m.e,by rw[cP,oSz];omega⟩
    ·obtain⟨j,f,b⟩:=bind_some k
     simp only[aq,aQ]at b;obtain⟨rfl,rfl⟩:=b;obtain⟨g,_⟩:=cr D.ws f;have P:=g.lt;exact⟨D.then g.e,by rw[cP,oSz];omega⟩
   ·split at d
    ·obtain⟨i,B⟩:=h.br _ x F o.ws d
     exact⟨o.then i.e,by omega⟩
    ·split at d
     ·obtain⟨r,u,k⟩:=bind_some d
      obtain⟨c,t⟩:=r;obtain⟨q,f,b⟩:=bind_some k;obtain⟨a,j⟩:=q;simp only[aq,aQ]at b;obtain⟨rfl,rfl⟩:=b;obtain⟨i,B⟩:=(ue n).e 1 _ c t o.ws u;obtain⟨g,R⟩:=h.b t a j i.ws f;exact⟨(o.then i.e).then g.e,by rw[cP];omega⟩
     ·split at d
      ·obtain⟨e,f,b⟩:=bind_some d
       obtain⟨y,j⟩:=e;simp only[aq,aQ]at b;obtain⟨rfl,rfl⟩:=b;obtain⟨i,B⟩:=p f;exact⟨i,by rw[cP];omega⟩
      ·split at d
       ·obtain⟨e,f,b⟩:=bind_some d
        obtain⟨y,j⟩:=e;simp only[aq,aQ]at b;obtain⟨rfl,rfl⟩:=b;obtain⟨i,B⟩:=p f;exact⟨i,by rw[cP];omega⟩
       ·split at d
        ·obtain⟨j,f,b⟩:=bind_some d
         simp only[aq,aQ]at b;obtain⟨rfl,rfl⟩:=b;obtain⟨g,_⟩:=cr o.ws f;have:=(o.then g.e).lt;exact⟨o.then g.e,by rw[cP];omega⟩
        ·split at d
         ·split at d
          ·rename_i he
           cases d;have g:=o.then (o.ws.step (cK he).1).e;have P:=(o.ws.step (cK he).1).lt;exact⟨g,by rw[cP,oSz];omega⟩
          ·obtain⟨e,f,b⟩:=bind_some d
           obtain⟨y,j⟩:=e;simp only[aq,aQ]at b;obtain⟨rfl,rfl⟩:=b;obtain⟨i,B⟩:=p f;exact⟨i,by rw[cP,oSz];omega⟩
         ·cases d
  ·obtain⟨r,u,k⟩:=bind_some d
   obtain⟨l,t⟩:=r;obtain⟨i,B⟩:=(ue n).p s l t A u;split at k
   ·rename_i he
    have g:=i.ws.step (cK he).1;have v:=i.then g.e;have P:=g.lt;have p:∀{y j},dy n (aS t)=some (y,j)->Gone s j/\cN l+cN y+j.ts.length+2<=s.ts.length:=λ{y j} f=>by
     obtain⟨m,G⟩:=tC g.ws f;exact⟨v.then m.e,by omega⟩
    split at k
    ·obtain⟨e,f,b⟩:=bind_some k
     obtain⟨y,j⟩:=e;simp only[aq,aQ]at b;obtain⟨rfl,rfl⟩:=b;obtain⟨m,G⟩:=p f;exact⟨m,by rw[cP];omega⟩
    ·rename_i ca cb hl
     simp only at hl;subst hl;obtain⟨e,f,b⟩:=bind_some k;obtain⟨y,j⟩:=e;simp only[aq,aQ]at b;obtain⟨rfl,rfl⟩:=b;obtain⟨m,G⟩:=p f;exact⟨m,by rw[cP];omega⟩
    ·rename_i ca cb hl
     simp only at hl;subst hl;obtain⟨e,f,b⟩:=bind_some k;obtain⟨y,j⟩:=e;simp only[aq,aQ]at b;obtain⟨rfl,rfl⟩:=b;obtain⟨m,G⟩:=p f;exact⟨m,by rw[cP];omega⟩
    ·cases k
   ·split at k
    ·rename_i cs cl hl
     simp only at hl;subst hl;obtain⟨j,f,b⟩:=bind_some k;simp only[aq,aQ]at b;obtain⟨rfl,rfl⟩:=b;obtain⟨g,_⟩:=cr i.ws f;have:=g.lt;exact⟨i.then g.e,by rw[cP];omega⟩
    ·cases k
theorem Gq:∀n,VT n
 | 0=>Ho
 | n+1=>Hp (Gq n)
def fSz (f:Fun):Nat:=f.params.length+bL f.body+1
def tW (l:List Fun):Nat:=(l.map fSz).sum
theorem xx (hw:Ws s) (h:dl n s=some (f,s')):Gone s s'/\fSz f+s'.ts.length<=s.ts.length:=by
 unfold dl at h;obtain⟨X,z,A⟩:=bind_some h;obtain⟨r,B,C⟩:=bind_some A;obtain⟨nm,Y⟩:=r;obtain⟨k,_⟩:=cr hw z;obtain⟨m,hn⟩:=ju k.ws B;have a:=k.then m.e;obtain⟨P,D,E⟩:=bind_some C;obtain⟨l,R⟩:=P;obtain⟨O,W,_,u,i,I,L,K,J,_,x⟩:=iT m.ws D;obtain⟨j,F,G⟩:=bind_some K;obtain⟨S,H,c⟩:=bind_some G;simp only[aq,aQ]at c;obtain⟨rfl,rfl⟩:=c;obtain⟨o,V,N⟩:=qy n true [] O j.1 j.2 i (λp hm=>by cases hm) F;obtain⟨q,_⟩:=cr o.ws H;have e:=a.then (J (o.then q).e).e;have t:=e.then (jZ (w:=cY) e.ws);have U:=(jZ (w:=cY) e.ws).le;obtain⟨Q,g,d⟩:=bind_some E;obtain⟨b,v⟩:=Q;simp only[aq,aQ]at d;obtain⟨rfl,rfl⟩:=d;obtain⟨y,z7⟩:=(Gq n).b _ b v t.ws g;refine⟨t.then y.e,?_⟩;have T:R.ts.length=S.ts.length:=by rw[x]
 have M:=a.lt;have l4:=q.lt;simp at N;unfold fSz;show j.1.length+bL b+1+v.ts.length<=_;omega
theorem wN:∀(n:Nat) (acc:List Fun) (s:PS) (l:List Fun),Ws s->gr n acc s=some l->tW l<=tW acc+s.ts.length
 | 0,_,_,_,_,h=>by simp[gr]at h
 | n+1,acc,s,l,hw,h=>by
  rw[gr]at h;split at h
  ·cases h;omega
  ·obtain⟨r,c,d⟩:=bind_some h
   obtain⟨f,a⟩:=r;obtain⟨b,g⟩:=xx hw c;have e:tW l<=tW (acc++[f])+a.ts.length:=wN n _ a l b.ws d;have:tW (acc++[f])=tW acc+fSz f:=by unfold tW;simp
   omega
mutual
theorem JY:∀(x:Sm) (k:Nat),(oA x k).1.length<=cP x
 | .var n p r,k=>by rw[oA,cP];simp
 | .set n r,k=>by simp[oA]
 | .cell l r,k=>by simp[oA]
 | .iff r a b,k=>by
  rw[oA,cP];have c:=mM a k;have d:=mM b (dH a k).2;simp only[ac];omega
 | .whl r a,k=>by rw[oA,cP];have c:=mM a k;omega
 | .out r,k=>by simp[oA]
 | .free r,k=>by simp[oA]
 | .drain,k=>by simp[oA]
 | .ret r,k=>by simp[oA]
 | .call r,k=>by simp[oA]
theorem mM:∀(l:List Sm) (k:Nat),(dH l k).1.length<=bL l
 | [],k=>by simp[dH]
 | x::xs,0=>by simp[dH]
 | x::xs,k+1=>by
  rw[dH,bL];have a:=JY x k;have b:=mM xs (oA x k).2;simp only[ac];omega
end
theorem BP (f:Fun):(bQ f).length<=f.params.length+bL f.body:=by
 unfold bQ;rw[ac];have:=mM f.body 65536;omega
theorem Gz {us:List (Tx×List Tx)}:∀{l:List Nat} {placed:List Tx} {j i:Nat},yf us placed l->l[j]?=some i->∃u,us[i]?=some u/\(∀g∈u.2,g∈rM us placed (l.take j))/\u.1 ∉ rM us placed (l.take j)
 | [],_,_,_,_,hj=>by simp at hj
 | k::l,placed,0,i,h,hj=>by
  obtain⟨u,a,c,hn,_⟩:=h;simp at hj;subst hj;exact⟨u,a,by simpa [rM]using c,by simpa [rM]using hn⟩
 | k::l,placed,j+1,i,h,hj=>by
  obtain⟨u,a,_,_,d⟩:=h;obtain⟨v,b,e,f⟩:=Gz d (by simpa using hj);refine⟨v,b,?_,?_⟩<;>(rw[gW,rM,a];assumption)
theorem uy {us:List (Tx×List Tx)}:∀{l:List Nat} {placed:List Tx} {x:Tx},x∈rM us placed l->x∈placed\/∃i∈l,∃u,us[i]?=some u/\u.1=x
 | [],_,_,h=>.inl h
 | i::l,placed,x,h=>by
  rw[rM]at h;rcases uy h with a|⟨k,c,u,b⟩
  ·cases b:us[i]? with
   | none=>rw[b]at a;exact .inl a
   | some u =>
    rw[b]at a;rcases aR.1 a with rfl|a
    ·exact .inr ⟨i,aL ..,u,b,rfl⟩
    ·exact .inl a
  ·exact .inr ⟨k,aP _ c,u,b⟩
def plN (fs:List Fun) (l:List Nat):List Tx:=l.filterMap λk:Nat=>(fs[k]?).map (·.name)
theorem vJ {fs:List Fun}:∀{l:List Fun} {n:Nat} {us:List (List Tx)},fh fs l n=some us->us.length=l.length/\∀(j:Nat) (f:Fun),l[j]?=some f->us[j]?=some (cW f.body)/\(∀s∈cW f.body,(km fs s).isSome)/\bL f.body<=n/\f.params.length<=200
 | [],n,us,h=>by rw[fh]at h;cases h;exact⟨rfl,λj f hj=>by simp at hj⟩
 | g::l,n,us,h=>by
  rw[fh]at h;obtain⟨r,i,k⟩:=bind_some h;obtain⟨w,o,p⟩:=bind_some k;cases p;obtain⟨m,u⟩:=r;obtain⟨v,a,b,c⟩:=DN i;obtain⟨q,t⟩:=vJ o;refine⟨by simp[q],λj f hj=>?_⟩;cases j with
  | zero=>simp at hj;subst hj;exact⟨by simp[a],by rw[<- a];exact b,by omega,c⟩
  | succ j =>
   obtain⟨c1,c2,d,e⟩:=t j f (by simpa using hj);exact⟨by simpa using c1,c2,by simp only at d;omega,e⟩
structure Plan (fs:List Fun) (l:List Nat):Prop where
 len:l.length<=200
 nd:(fs.map (·.name)).Nodup
 at':∀j k:Nat,l[j]?=some k->∃f,fs[k]?=some f/\bL f.body<=65536/\f.params.length<=200/\∀s∈cW f.body,s∈plN fs (l.take j)
 main:[109,97,105,110]∈plN fs l
theorem IA {fs:List Fun} {l:List Nat} (h:eJ fs=some l):Plan fs l:=by
 unfold eJ at h;split at h
 case isFalse=>cases h
 rename_i hh;obtain⟨o,N,B⟩:=bind_some h;simp only at B;split at B
 ·cases B
 rename_i hl;cases B;unfold fJ at hh;simp only[bH,bw]at hh;obtain⟨⟨H,y⟩,c⟩:=hh;obtain⟨I,J⟩:=vJ N;have A:((fs.map (·.name)).zip o).length=fs.length:=by rw[List.length_zip,I];simp
 have r:((fs.map (·.name)).zip o).map (·.1)=fs.map (·.name):=List.map_fst_zip (by rw[I];simp);have n:∀(i:Nat) (u:Tx×List Tx),((fs.map (·.name)).zip o)[i]?=some u->∃f,fs[i]?=some f/\f.name=u.1/\o[i]?=some u.2:=λi u p=>by
  rw[List.getElem?_zip_eq_some]at p;obtain⟨a,b⟩:=p;rw[aG,Option.map_eq_some_iff]at a;obtain⟨f,d,hn⟩:=a;exact⟨f,d,hn,b⟩
 have G:∀u∈(fs.map (·.name)).zip o,∀g∈u.2,∃v∈(fs.map (·.name)).zip o,v.1=g:=λu p g C=>by
  obtain⟨i,E⟩:=fL.1 p;obtain⟨f,d,_,q⟩:=n i u E;obtain⟨c1,c2,_,_⟩:=J i f d;rw[q]at c1;injection c1 with c1;rw[c1]at C;have:=c2 g C;unfold km at this;obtain⟨M,t⟩:=iZ.1 this;have Q:=dR t;have hn:M.name=g:=by simpa using yg t
  have:g∈((fs.map (·.name)).zip o).map (·.1):=by rw[r,<- hn];exact List.mem_map_of_mem Q
  obtain⟨v,R,e⟩:=bM.1 this;exact⟨v,R,e⟩
 obtain⟨D,m⟩:=uJ ((fs.map (·.name)).zip o) (by rw[r];exact y) G;rw[A]at D m;obtain⟨l,F⟩:∃l,jc ((fs.map (·.name)).zip o) (fs.length+1) [] []=l:=⟨_,rfl⟩;rw[F]at D m hl ⊢;have w:l.length=fs.length:=by rcases m with h|h<;>omega
 have z:∀(l':List Nat) x,x∈rM ((fs.map (·.name)).zip o) [] l'->x∈plN fs l':=λl' x hx=>by
  rcases uy hx with h|⟨i,E,u,p,e⟩
  ·cases h
  ·obtain⟨f,d,hn,_⟩:=n i u p
   exact List.mem_filterMap.2 ⟨i,E,by rw[d,kV,hn,e]⟩
 refine⟨by omega,y,λj k hj=>?_,?_⟩
 ·obtain⟨u,p,C,_⟩:=Gz D hj
  obtain⟨f,d,hn,q⟩:=n k u p;obtain⟨c1,_,K,L⟩:=J k f d;rw[q]at c1;injection c1 with c1;exact⟨f,d,K,L,λs hs=>z _ _ (C s (by rw[c1];exact hs))⟩
 ·refine z l _ (Fd D (by rw[A,w]) ?_)
  rw[r];unfold km at c;cases d:fs.find? (λf=>decide (f.name=[109,97,105,110]))with
  | none=>rw[d]at c;cases c
  | some f=>have O:=dR d;have P:=yg d;rw[<- bm P];exact List.mem_map_of_mem O
def Ne (l:List Tok):Prop:=∃t q,l=t::q/\isT iu t=false
theorem Ne.ne (h:Ne l):l≠[]:=by obtain⟨t,r,rfl,_⟩:=h;simp
theorem Ev.map {α β:Type} {f:Nat->Option α} {g:Nat->Option β} {r:α} {q:β} (h:Ev f r) (hg:∀n,f n=some r->g n=some q):Ev g q:=by
 obtain⟨N,a⟩:=h;exact⟨N,λn hn=>hg n (a n hn)⟩
def IE (b:Bool) (l:Tx):Tx:=if b=true then 40::(l++[41])else l
def lg (x:Ex) (c:Int) (l:Tx):Tx:=IE (decide (lvl x<c)) l
mutual
def cV:Ex->Tx
 | .num n=>ru n
 | .name s=>s
 | .un t r=>t++lg r 7 (cV r)
 | .bin t l r=>lg l (binds t) (cV l)++32::(t++32::lg r (binds t+1) (cV r))
 | .call s args=>s++40::(eN true args++[41])
 | .cell l r=>lg l 8 (cV l)++91::(cV r++[93])
 | .link l r=>lg l 8 (cV l)++58::(if gh r=true then cV r else 40::(cV r++[41]))
 | .new l=>[110,101,119,40]++(cV l++[41])
 | .inp=>[105,110,40,41]
def eN:Bool->List Ex->Tx
 | _,[]=>[]
 | b,x::xs=>(if b=true then[]else[44,32])++(cV x++eN false xs)
end
def tabs (d:Nat):Tx:=List.replicate d 9
abbrev xEq:Tx:=[32,61,32]
abbrev tU:Tx:=[32,112,116,114]
mutual
def stT:Nat->Sm->Tx
 | _,.var n p none=>[118,97,114,32]++(n++((if p=true then tU else[])++[59]))
 | _,.var n p (some r)=>[118,97,114,32]++(n++((if p=true then tU else[])++(xEq++(cV r++[59]))))
 | _,.set n r=>n++(xEq++(cV r++[59]))
 | _,.cell l r=>cV l++(xEq++(cV r++[59]))
 | d,.iff r a b=>[105,102,32]++(cV r++([32,123,10]++(db (d+1) a++(tabs d++[125]))++(if b.isEmpty=true then[]else if jB b=true then[32,101,108,115,101,32]++F0 d b else[32,101,108,115,101]++([32,123,10]++(db (d+1) b++(tabs d++[125]))))))
 | d,.whl r a=>[119,104,105,108,101,32]++(cV r++([32,123,10]++(db (d+1) a++(tabs d++[125]))))
 | _,.out r=>[111,117,116,32]++(cV r++[59])
 | _,.free r=>[102,114,101,101,32]++(cV r++[59])
 | _,.drain=>[100,114,97,105,110,59]
 | _,.ret none=>[114,101,116,117,114,110,59]
 | _,.ret (some r)=>[114,101,116,117,114,110,32]++(cV r++[59])
 | _,.call r=>cV r++[59]
def db:Nat->List Sm->Tx
 | _,[]=>[]
 | d,x::xs=>tabs d++(stT d x++10::db d xs)
def F0:Nat->List Sm->Tx
 | _,[]=>[]
 | d,x::xs=>stT d x++F0 d xs
end
def iW (d:Nat) (l:List Sm):Tx:=[32,123,10]++(db (d+1) l++(tabs d++[125]))
def dK:Bool->List Par->Tx
 | _,[]=>[]
 | b,p::ps=>(if b=true then[]else[44,32])++(p.name++((if p.ptr=true then tU else[])++dK false ps))
def A7 (f:Fun):Tx:=[102,117,110,99,32]++(f.name++40::(dK true f.params++41::((if f.ptr=true then tU else[])++(iW 0 f.body++[10]))))
def eL:List Fun->Tx
 | []=>[]
 | f::fs=>A7 f++eL fs
def df (s:Tx) (ts:List Tok) (s':Tx):Prop:=∃k,k+s'.length<=s.length/\∀f out,rp (f+k) s out=rp f s' (out++ts)
theorem df.refl (s:Tx):df s [] s:=⟨0,by omega,λf out=>by rw[bo];rfl⟩
theorem df.trans {a c:Tx} {us:List Tok} (h:df a ts b) (k:df b us c):df a (ts++us) c:=by
 obtain⟨m,g,d⟩:=h;obtain⟨n,i,e⟩:=k;refine⟨n+m,by omega,λf out=>?_⟩;rw[<- Nat.add_assoc,d,e,aF]
theorem df.step {r s:Tx} {t:Tok} (h:dx (c::r)=some (some t,s)) (hl:s.length<=r.length):df (c::r) [t] s:=
 ⟨1,by simp;omega,λf out=>by rw[rp,h]⟩
theorem df.skip {r s:Tx} (h:dx (c::r)=some (none,s)) (hl:s.length<=r.length):df (c::r) [] s:=
 ⟨1,by simp;omega,λf out=>by rw[rp,h,bo]⟩
theorem df.cast {a a' b':Tx} {us:List Tok} (h:df a ts b) (e1:a'=a) (e2:us=ts) (e3:b'=b):df a' us b':=by subst e1 e2 e3;exact h
theorem mG (base:Nat):∀(ps:List Par) (p:Par) (i:Nat) (L:Tx->Nat) (t:Tx),cU base (ps++[p]) i L t=if t=p.name then base+16*(1+(i+ps.length))else cU base ps i L t
 | [],p,i,L,t=>by rw[bh,cU,cU,cU];rfl
 | q::ps,p,i,L,t=>by
  rw[bB,cU,mG base ps p (i+1),cU,aC,show i+1+ps.length=i+(ps.length+1) by omega]
theorem o5 (base:Nat):∀(ps:List Par) (i:Nat) (L:Tx->Nat) (t:Tx),cU base ps i L t<=base+16*(1+(i+ps.length))+L t
 | [],i,L,t=>by rw[cU];omega
 | p::ps,i,L,t=>by
  rw[cU];have:=o5 base ps (i+1) (λu=>if u=p.name then base+16*(1+i)else L u) t;rw[aC]
  by_cases h:t=p.name
  ·simp only[ax h]at this
   have c:cU base ps (i+1) (λu=>if u=p.name then base+16*(1+i)else L u) t<=base+16*(1+(i+(ps.length+1))):=by
    clear this;have b:∀(qs:List Par) (k:Nat) (M:Tx->Nat),M t<=base+16*(1+(k+qs.length))->cU base qs k M t<=base+16*(1+(k+qs.length)):=λqs=>by
     induction qs with
     | nil=>intro k M a;rw[cU];exact a
     | cons q qs ih =>
      intro k M a;rw[cU];rw[aC]at a ⊢;have:=ih (k+1) (λu=>if u=q.name then base+16*(1+k)else M u) (by show(if t=q.name then base+16*(1+k)else M t)<=_;split<;>omega)
      omega
    have:=b ps (i+1) (λu=>if u=p.name then base+16*(1+i)else L u) (by show(if t=p.name then base+16*(1+i)else L t)<=_;rw[ax h];omega);omega
   omega
  ·simp only[ap h]at this
   omega
mutual
theorem EC:∀(x:Sm) (k:Nat),SmP x->∀p∈(oA x k).1,fe p.name
 | .var n p none,k,h,q,c=>by unfold SmP at h;rw[oA]at c;rw[aZ]at c;subst c;exact h
 | .var n p (some r),k,h,q,c=>by unfold SmP at h;rw[oA]at c;rw[aZ]at c;subst c;exact h.1
 | .set n r,k,h,q,c=>by simp[oA]at c
 | .cell l r,k,h,q,c=>by simp[oA]at c
 | .iff r a b,k,h,q,c=>by
  unfold SmP at h;rw[oA]at c;rcases aU.1 c with c|c
  ·exact ll a k h.2.1 q c
  ·exact ll b _ h.2.2 q c
 | .whl r a,k,h,q,c=>by unfold SmP at h;rw[oA]at c;exact ll a k h.2 q c
 | .out r,k,h,q,c=>by simp[oA]at c
 | .free r,k,h,q,c=>by simp[oA]at c
 | .drain,k,h,q,c=>by simp[oA]at c
 | .ret r,k,h,q,c=>by simp[oA]at c
 | .call r,k,h,q,c=>by simp[oA]at c
theorem ll:∀(l:List Sm) (k:Nat),jW l->∀p∈(dH l k).1,fe p.name
 | [],k,h,q,a=>by simp[dH]at a
 | x::xs,0,h,q,a=>by simp[dH]at a
 | x::xs,k+1,h,q,a=>by
  unfold jW at h;rw[dH]at a;rcases aU.1 a with a|a
  ·exact EC x k h.1 q a
  ·exact ll xs _ h.2 q a
end
theorem wB (h:FunP f):∀p∈bQ f,fe p.name:=λp a=>by
 unfold bQ at a;rcases aU.1 a with a|a
 ·exact h.pars p a
 ·exact ll f.body 65536 h.body p a
theorem pR:∀(l:List Nat) (g:GS),(l.foldl (λg a=>fG a 6 g) g).words.length=g.words.length/\(l.foldl (λg a=>fG a 6 g) g).kept=g.kept/\(l.foldl (λg a=>fG a 6 g) g).ends=g.ends
 | [],g=>⟨rfl,rfl,rfl⟩
 | a::l,g=>by
  have h:=kK a 6 g;have b:=pR l (fG a 6 g);rw[List.foldl_cons];exact⟨b.1.trans h.2.2,b.2.1.trans h.1,b.2.2.trans h.2.1⟩
def tX (f:Fun) (s:GP):GS:=mi (dp f s) f.ptr f.body (fF 5 s.bytes ⟨s.words,s.bad,0,[]⟩)
theorem GJ (f:Fun) (s:GP):(tX f s).words.length<=s.words.length+40*bL f.body+4/\(tX f s).ends.length<=bL f.body/\(∀a∈(tX f s).ends,a<=s.words.length+40*bL f.body+4)/\(dj f s).words.length<=s.words.length+40*bL f.body+20:=by
 have n:(fF 5 s.bytes ⟨s.words,s.bad,0,[]⟩).words.length<=s.words.length+4:=(jg 24 5 s.bytes ⟨s.words,s.bad,0,[]⟩).2.2;have d:(fF 5 s.bytes ⟨s.words,s.bad,0,[]⟩).ends=[]:=(jg 24 5 s.bytes ⟨s.words,s.bad,0,[]⟩).2.1;have i:=nz (dp f s) f.ptr f.body (fF 5 s.bytes ⟨s.words,s.bad,0,[]⟩);obtain⟨q,b,c⟩:=i;rw[d]at b c;have j:=tJ (dp f s) f.ptr none (tX f s);rw[oSz]at j;have o:=pR (cS (dp f s) f.ptr none (tX f s)).ends (cS (dp f s) f.ptr none (tX f s));have p:=(jg 23 5 s.bytes ((cS (dp f s) f.ptr none (tX f s)).ends.foldl (λg a=>fG a 6 g) (cS (dp f s) f.ptr none (tX f s)))).2.2;have k:=(gB [⟨30,6,5,0,0⟩] (mq 5 s.bytes ((cS (dp f s) f.ptr none (tX f s)).ends.foldl (λg a=>fG a 6 g) (cS (dp f s) f.ptr none (tX f s))))).2.2;have e:(dj f s).words=(cL [⟨30,6,5,0,0⟩] (mq 5 s.bytes ((cS (dp f s) f.ptr none (tX f s)).ends.foldl (λg a=>fG a 6 g) (cS (dp f s) f.ptr none (tX f s))))).words:=rfl;have l:(tX f s).words.length<=s.words.length+40*bL f.body+4:=by unfold tX;omega
 refine⟨l,by unfold tX;simp at b;omega,λa ha=>?_,?_⟩
 ·rcases c a ha with h|h
  ·cases h
  ·omega
 ·rw[e,k]
  unfold mq;have m:([⟨30,6,5,0,0⟩]:List Ins).length=1:=rfl;omega
def Es (s:Tx):Prop:=∃u q,s=u::q/\(dL u=2\/dL u=3\/u=40\/u=33\/u=45)
theorem Es.par {s:Tx} (h:Es s) (b:Bool):Es (IE b s):=by
 unfold IE;split
 ·exact⟨40,_,rfl,.inr (.inr (.inl rfl))⟩
 ·exact h
theorem Es.app {s:Tx} (h:Es s) (r:Tx):Es (s++r):=by obtain⟨u,q,rfl,a⟩:=h;exact⟨u,q++r,rfl,a⟩
theorem zB:∀(f n:Nat) (acc:Tx),(FX f n acc).length<=f+acc.length
 | 0,n,acc=>by rw[FX];omega
 | f+1,n,acc=>by
  rw[FX];split
  ·simp;omega
  ·have:=zB f (n/10) (UInt8.ofNat (48+n%10)::acc)
   rw[aC]at this;omega
theorem Ju (n:Nat):(ru n).length<=20:=by have:=zB 20 n [];simpa [ru]using this
theorem lC (x:Ex) (c:Int) (l:Tx):(lg x c l).length<=l.length+2:=by
 unfold lg IE;split<;>simp
theorem vL {t:Tx} (h:binds t≠0):t.length<=2:=by
 unfold binds at h;cases hf:iQ.find? λr=>decide (r.1=t)with
 | none=>rw[hf]at h;exact absurd rfl h
 | some r =>
  have b:=dR hf;have c:=yg hf;have:∀r∈iQ,r.1.length<=2:=by decide
  have a:=this r b;rw[bm c]at a;exact a
mutual
theorem kO:∀(x:Ex),ExP x->(cV x).length+4<=60*cN x
 | .num n,_=>by rw[cV,cN];have:=Ju n;omega
 | .name s,h=>by unfold ExP at h;rw[cV,cN];have:=h.1;omega
 | .un t r,h=>by
  unfold ExP at h;have a:=kO r h.2;have b:=lC r 7 (cV r);have c:t.length<=1:=by rcases h.1 with e|e<;>(rw[e];decide)
  rw[cV,cN,ac];omega
 | .bin t l r,h=>by
  unfold ExP at h;have a:=kO l h.2.1;have b:=kO r h.2.2;have c:=lC l (binds t) (cV l);have d:=lC r (binds t+1) (cV r);have f:=vL h.1;rw[cV,cN];simp only[ac,aC];omega
 | .call s args,h=>by
  unfold ExP at h;have a:=DY true args h.2.2;have b:=h.1.1;rw[cV,cN];simp only[ac,aC,aW];omega
 | .cell l r,h=>by
  unfold ExP at h;have a:=kO l h.1;have b:=kO r h.2;have c:=lC l 8 (cV l);rw[cV,cN];simp only[ac,aC,aW];omega
 | .link l r,h=>by
  unfold ExP at h;have a:=kO l h.1;have b:=kO r h.2;have c:=lC l 8 (cV l);rw[cV,cN];split<;>simp only[ac,aC,aW]<;>omega
 | .new l,h=>by
  unfold ExP at h;have a:=kO l h;rw[cV,cN];simp only[ac,aC,aW];omega
 | .inp,_=>by rw[cV,cN];decide
theorem DY:∀(b:Bool) (l:List Ex),om l->(eN b l).length<=60*gZ l
 | b,[],_=>by rw[eN,gZ];simp
 | b,x::xs,h=>by
  unfold om at h;have a:=kO x h.1;have c:=DY false xs h.2;rw[eN,gZ];split<;>simp only[ac,aC,aW]<;>omega
end
theorem El {K e:Nat} (h:e<=60*a) (hK:60<=K):e<=K*a:=ay h (Nat.mul_le_mul_right _ hK)
theorem sJ (p:Bool):(if p=true then tU else[]).length<=4:=by split<;>decide
mutual
theorem J5 (C K:Nat) (hK:4*C+240<=K):∀(x:Sm) (d:Nat),SmP x->d+cP x<=C->(stT d x).length+d+10<=K*cP x
 | .var n p none,d,h,hd=>by
  unfold SmP at h;have f:=h.1;have g:=sJ p;rw[cP,oSz]at hd ⊢;rw[stT];simp only[ac,aC,aW];omega
 | .var n p (some r),d,h,hd=>by
  unfold SmP at h;have f:=h.1.1;have g:=sJ p;have c:=El (K:=K) (by have:=kO r h.2;omega:(cV r).length<=60*cN r) (by omega);rw[cP,oSz]at hd ⊢;rw[stT,fo];simp only[ac,aC,aW];omega
 | .set n r,d,h,hd=>by
  unfold SmP at h;have f:=h.1.1;have c:=El (K:=K) (by have:=kO r h.2;omega:(cV r).length<=60*cN r) (by omega);rw[cP]at hd ⊢;rw[stT,fo];simp only[ac,aC,aW];omega
 | .cell l r,d,h,hd=>by
  unfold SmP at h;have g:=El (K:=K) (by have:=kO l h.2.1;omega:(cV l).length<=60*cN l) (by omega);have c:=El (K:=K) (by have:=kO r h.2.2;omega:(cV r).length<=60*cN r) (by omega);rw[cP]at hd ⊢;rw[stT,fo,fo];simp only[ac,aC,aW];omega
 | .iff r a b,d,h,hd=>by
  unfold SmP at h;have c:=El (K:=K) (by have:=kO r h.1;omega:(cV r).length<=60*cN r) (by omega);rw[cP]at hd ⊢;have i:=nO C K hK a (d+1) h.2.1 (by omega);have j:=nO C K hK b (d+1) h.2.2 (by omega);have k:=G3 C K hK b d h.2.2 (by omega);rw[stT,fo,fo,fo];have e:(tabs d).length=d:=by simp[tabs]
  split
  ·simp only[ac,aC,aW,e];omega
  ·split<;>simp only[ac,aC,aW,e]<;>omega
 | .whl r a,d,h,hd=>by
  unfold SmP at h;have c:=El (K:=K) (by have:=kO r h.1;omega:(cV r).length<=60*cN r) (by omega);rw[cP]at hd ⊢;have i:=nO C K hK a (d+1) h.2 (by omega);have e:(tabs d).length=d:=by simp[tabs]
  rw[stT,fo,fo];simp only[ac,aC,aW,e];omega
 | .out r,d,h,hd=>by
  unfold SmP at h;have c:=El (K:=K) (by have:=kO r h;omega:(cV r).length<=60*cN r) (by omega);rw[cP]at hd ⊢;rw[stT,fo];simp only[ac,aC,aW];omega
 | .free r,d,h,hd=>by
  unfold SmP at h;have c:=El (K:=K) (by have:=kO r h;omega:(cV r).length<=60*cN r) (by omega);rw[cP]at hd ⊢;rw[stT,fo];simp only[ac,aC,aW];omega
 | .drain,d,h,hd=>by
  rw[cP]at hd ⊢;rw[stT];simp only[aC,aW];omega
 | .ret none,d,h,hd=>by
  rw[cP,oSz]at hd ⊢;rw[stT];simp only[aC,aW];omega
 | .ret (some r),d,h,hd=>by
  unfold SmP at h;have c:=El (K:=K) (by have:=kO r h;omega:(cV r).length<=60*cN r) (by omega);rw[cP,oSz]at hd ⊢;rw[stT,fo];simp only[ac,aC,aW];omega
 | .call r,d,h,hd=>by
  unfold SmP at h;have c:=El (K:=K) (by have:=kO r h.2;omega:(cV r).length<=60*cN r) (by omega);rw[cP]at hd ⊢;rw[stT,fo];simp only[ac,aC,aW];omega
theorem nO (C K:Nat) (hK:4*C+240<=K):∀(l:List Sm) (d:Nat),jW l->d+bL l<=C->(db d l).length<=K*bL l
 | [],d,_,_=>by rw[db];simp
 | x::xs,d,h,hd=>by
  unfold jW at h;rw[bL]at hd;have b:=J5 C K hK x d h.1 (by omega);have c:=nO C K hK xs d h.2 (by omega);have a:(tabs d).length=d:=by simp[tabs]
  rw[db,bL,fo];simp only[ac,aC,a];omega
theorem G3 (C K:Nat) (hK:4*C+240<=K):∀(l:List Sm) (d:Nat),jW l->d+bL l<=C->(F0 d l).length<=K*bL l
 | [],d,_,_=>by rw[F0];simp
 | x::xs,d,h,hd=>by
  unfold jW at h;rw[bL]at hd;have a:=J5 C K hK x d h.1 (by omega);have b:=G3 C K hK xs d h.2 (by omega);rw[F0,bL,fo];simp only[ac];omega
end
theorem Co:∀(b:Bool) (l:List Par),(∀p∈l,fe p.name)->(dK b l).length<=60*l.length
 | b,[],_=>by rw[dK];simp
 | b,p::l,h=>by
  have a:=(h p (aL ..)).1;have c:=Co false l λq hq=>h q (aP _ hq);have d:=sJ p.ptr;rw[dK,aC];split<;>simp only[ac,aC,aW]<;>omega
theorem KW (f:Fun) (h:FunP f) (hs:fSz f<=100000):(A7 f).length<=500000*fSz f:=by
 unfold fSz at hs ⊢;have b:=h.name.1;have c:=Co true f.params h.pars;have d:=sJ f.ptr;have e:=nO 100001 500000 (by omega) f.body 1 h.body (by omega);unfold A7 iW;have a:(tabs 0).length=0:=rfl;simp only[ac,aC,aW,a,cA];omega
theorem Cf:∀(l:List Fun),(∀f∈l,FunP f)->tW l<=100000->(eL l).length<=500000*tW l
 | [],_,_=>by rw[eL];simp
 | f::l,h,hs=>by
  have e:tW (f::l)=fSz f+tW l:=by unfold tW;simp
  rw[e]at hs ⊢;have a:=KW f (h f (aL ..)) (by omega);have b:=Cf l (λg hg=>h g (aP _ hg)) (by omega);rw[eL,ac,fo];omega
end Go.Proofs.YtbeaaimcpkogcaaGreatDoor
