/- Lemmas on the way to the claim. -/
import Derived.StillTail
import Derived.Test.YtbeaaimcpkogcaaGreatDoorM01
set_option linter.unusedSimpArgs false
set_option linter.unusedVariables false
namespace Go.Proofs.YtbeaaimcpkogcaaGreatDoor
def mV:List Value->Nat->Act->Act
 | [],_,a=>a
 | v::vs,s,a=>mV vs (s+1) (a.put (some s) v)
theorem nD (a:Act) (s:Nat) (v:Value):(a.put (some s) v).tmps.size=a.tmps.size/\(a.put (some s) v).defers=a.defers:=⟨by simp[Act.put],rfl⟩
theorem B9 (a:Act) (s t:Nat) (v:Value) (h:s<a.tmps.size):(a.put (some s) v).tmps.getD t undef=if t=s then v else a.tmps.getD t undef:=by
 unfold Act.put;simp only
 by_cases e:t=s
 ·subst e;simp[h]
 ·rw[ap e]
  simp only[Array.getD_eq_getD_getElem?];rw[Array.getElem?_setIfInBounds_ne (λe'=>e e'.symm)]
theorem vo:∀(vs:List Value) (s:Nat) (a:Act),(mV vs s a).tmps.size=a.tmps.size/\(mV vs s a).defers=a.defers
 | [],_,a=>⟨rfl,rfl⟩
 | v::vs,s,a=>by
  obtain⟨b,c⟩:=vo vs (s+1) (a.put (some s) v);exact⟨b.trans (nD a s v).1,c.trans (nD a s v).2⟩
theorem jL:∀(vs:List Value) (s:Nat) (a:Act),s+vs.length<=a.tmps.size->∀t,(mV vs s a).tmps.getD t undef=if s<=t/\t<s+vs.length then vs.getD (t-s) undef else a.tmps.getD t undef
 | [],s,a,_,t=>by
  rw[ap (by simp<;>omega)]
  try rfl
 | v::vs,s,a,h,t=>by
  rw[mV,jL vs (s+1) (a.put (some s) v) (by rw[(nD a s v).1];simp at h;omega) t,B9 a s t v (by simp at h;omega)];simp only[aC]
  by_cases h1:t=s
  ·subst h1
   rw[ap (by omega),ax rfl,ax (by omega),Nat.sub_self];rfl
  ·by_cases h2:s+1<=t/\t<s+1+vs.length
   ·rw[ax h2,ax (by omega)]
    obtain⟨d,hd⟩:∃d,t-s=d+1:=⟨t-s-1,by omega⟩;rw[hd,show t-(s+1)=d by omega];rfl
   ·rw[ap h2,ap h1,ap (by omega)]
structure Agr (base:Nat) (a0:Act) (val:Nat->Value) (l:Nat) (listed:Array Bool) (a:Act):Prop where
 size:a.tmps.size=a0.tmps.size
 defers:a.defers=a0.defers
 get:∀t,a.tmps.getD t undef=if base<=t/\t<base+l/\listed.getD (t-base) false=true then val (t-base)else a0.tmps.getD t undef
def A8 (listed:Array Bool):Nat->Nat
 | 0=>0
 | n+1=>A8 listed n+if listed.getD n false=true then 0 else 1
theorem G2 (listed:Array Bool):∀n,A8 listed n<=n
 | 0=>ag _
 | n+1=>by have:=G2 listed n;unfold A8;split<;>omega
theorem zD {listed:Array Bool} {j:Nat}:∀n,n<=j->A8 (listed.setIfInBounds j true) n=A8 listed n
 | 0,_=>rfl
 | n+1,h=>by unfold A8;rw[zD n (by omega),getD_set_ne false (show j≠n by omega)]
theorem DL {listed:Array Bool} {j:Nat} (hs:j<listed.size):∀{n:Nat},j<n->listed.getD j false=false->A8 (listed.setIfInBounds j true) n+1=A8 listed n
 | 0,h,_=>by omega
 | n+1,h,hu=>by
  unfold A8
  by_cases hj:j=n
  ·subst hj
   rw[zD j (ag _),hu];have:(listed.setIfInBounds j true).getD j false=true:=by simp[hs]
   rw[this];simp
  ·rw[getD_set_ne false hj]
   have:=DL hs (n:=n) (by omega) hu;omega
section
variable {P:Program} {ops:Array Oper} {Q:Exit->Act->World->Prop} {w:World}
theorem ni (base l i:Nat) (a0:Act) (vals:List Value) (R:World->Prop) (hn:ops.size=l+1) (hvl:vals.length=l) (hsz:base+l<=a0.tmps.size)
 (hdst:∀(j:Nat) (o:Oper),ops[j]?=some o->j<l->o.dst=some (base+j)) (hwant:∀(j:Nat) (o:Oper),ops[j]?=some o->o.guard=none) (hback:∀(j:Nat) (o:Oper),ops[j]?=some o->∀e∈o.after,e.on<j)
 (hs:Region.sinkB .any ops l=true) (hc:Region.chainB .any ops l=true) (hil:i<l)
 (H1:∀u,(u=w\/R u)->∀(j:Nat) (o:Oper),ops[j]?=some o->j≠i->j<l->∀a:Act,(∀t,t<base->a.tmps.getD t undef=a0.tmps.getD t undef)->(∀e∈o.after,Region.binds .any e=true->a.tmps.getD (base+e.on) undef=vals.getD e.on undef)->YieldsAt P ops u o (vals.getD j undef) a)
 (H2:∀o,ops[i]?=some o->∀a:Act,a.defers=a0.defers->(∀t,t<base->a.tmps.getD t undef=a0.tmps.getD t undef)->(∀e∈o.after,Region.binds .any e=true->a.tmps.getD (base+e.on) undef=vals.getD e.on undef)->o.wp P a w (λa' z=>a'=a.put o.dst (vals.getD i undef)/\R z) Q)
 (H4:∀o,ops[l]?=some o->∀z,R z->o.wp P (mV vals base a0) z (λa' w'=>Q .normal a' w') Q):
  wpAny P .any ops Q ops.size (Array.replicate ops.size false) a0 w:=by
 have Z:∀(o:Oper) (a:Act),o.guard=none->Region.wanted o (yielded ops a.tmps)=true:=λo a hg=>by simp[Region.wanted,hg]
 have C:∀(j:Nat) (p:Oper) (listed:Array Bool) (a:Act),ops[j]?=some p->j<l->listed.size=ops.size->Agr base a0 (λj=>vals.getD j undef) l listed a->Agr base a0 (λj=>vals.getD j undef) l (listed.setIfInBounds j true) (a.put p.dst (vals.getD j undef)):=by
  intro j p listed a b E F c;rw[hdst j p b E];refine⟨(nD _ _ _).1.trans c.size,(nD _ _ _).2.trans c.defers,λt=>?_⟩;rw[B9 a _ t _ (by rw[c.size];omega),c.get t]
  by_cases ht:t=base+j
  ·subst ht
   have G:(listed.setIfInBounds j true).getD j false=true:=by
    have:j<listed.size:=by omega
    simp[this]
   rw[ax rfl,ax ⟨by omega,by omega,by rw[Nat.add_sub_cancel_left];exact G⟩,Nat.add_sub_cancel_left]
  ·rw[ap ht]
   by_cases hr:base<=t
   ·rw[getD_set_ne false (show j≠t-base by omega)]
   ·rw[ap (by omega),ap (by omega)]
 have W:∀(f:Nat) (listed:Array Bool) (a:Act) (u:World),HeadInv .any ops l listed->Agr base a0 (λj=>vals.getD j undef) l listed a ->
   ((u=w/\listed.getD i false=false)\/(R u/\listed.getD i false=true))->A8 listed (l+1)<=f->wpAny P .any ops Q f listed a u:=by
  intro f
  induction f with
  | zero =>
   intro listed a u m _ _ N
   exfalso
   have G:=m.tail l (ag _) (by omega);have D:listed.getD l false=false:=getD_both G;unfold A8 at N;rw[ap (by rw[D];decide)]at N;omega
  | succ f ih =>
   intro listed a u m c v N;have I:listed.getD l true=false:=m.tail l (ag _) (by omega);have F:listed.size=ops.size:=m.size;refine⟨λh0=>?_,λj hj=>?_⟩
   ·exfalso
    have q:∀(k:Nat),k<=l->listed.getD k true=false->False:=by
     intro k
     induction k using Nat.strongRecOn with
     | _ k ihk =>
      intro a2 V;obtain⟨o,Y⟩:∃o,ops[k]?=some o:=⟨_,mB (by omega)⟩
      by_cases hx:∀e∈o.after,Region.binds .any e=true->listed.getD e.on false=true
      ·have:k∈Region.ready .any ops listed:=mem_ready.2 ⟨V,o,Y,hx⟩
       rw[h0]at this;cases this
      ·simp only[Classical.not_forall]at hx
       obtain⟨e,M,X,hn⟩:=hx;have H:=hback k o Y e M;have O:listed.getD e.on false=false:=by simpa using hn
       exact ihk e.on H (by omega) (getD_in (by omega) O)
    exact q l (ag _) I
   ·obtain⟨B,p,b,q⟩:=mem_ready.1 hj
    have a1:j<ops.size:=(A0.1 b).1;have r:∀t,t<base->a.tmps.getD t undef=a0.tmps.getD t undef:=λt ht=>by rw[c.get t,ap (by omega)]
    have A:∀e∈p.after,Region.binds .any e=true->a.tmps.getD (base+e.on) undef=vals.getD e.on undef:=λe M X=>by
     have H:=hback j p b e M;rw[c.get,Nat.add_sub_cancel_left,ax ⟨by omega,by omega,q e M X⟩]
    have y:A8 (listed.setIfInBounds j true) (l+1)<=f:=by
     have:=DL (listed:=listed) (j:=j) (n:=l+1) (by omega) (by omega) (getD_both B);omega
    by_cases E:j=l
    ·subst E
     have d:∀k,k<j->listed.getD k false=true:=λk S=>by
      cases hq:listed.getD k false with
      | true=>rfl
      | false=>exact absurd hj (tail_waits hs hc (by omega) m _ k rfl S (getD_in (by omega) hq) j (ag _))
     have hR:R u:=by
      rcases v with⟨_,h⟩|⟨h,_⟩
      ·rw[d i hil]at h;cases h
      ·exact h
     have ha:a=mV vals base a0:=by
      obtain⟨f1,f2⟩:=vo vals base a0;have J:a.tmps=(mV vals base a0).tmps:=by
       refine Array.ext (by rw[c.size,f1]) λt G D=>?_;have g1:=c.get t;have g2:=jL vals base a0 (by omega) t;have g3:a.tmps.getD t undef=(mV vals base a0).tmps.getD t undef:=by
        rw[g1,g2,hvl]
        by_cases hr:base<=t/\t<base+j
        ·rw[ax ⟨hr.1,hr.2,d _ (by omega)⟩,ax hr]
        ·rw[ap (λh=>hr ⟨h.1,h.2.1⟩),ap hr]
       simpa [G,D]using g3
      cases a;simp only at J;have L:=c.defers.trans f2.symm;simp only at L;generalize mV vals base a0=x at J L;cases x;simp only at J L;rw[J,L]
     subst ha;unfold wpOp;simp only[b];rw[ax (Z p _ (hwant _ _ b))];refine .inl (Oper.wp_mono (λa' w' hq=>?_) (H4 p b u hR));refine wpAny_done ?_ hq f;rw[List.eq_nil_iff_forall_not_mem];intro k S;obtain⟨s,ok,T,_⟩:=mem_ready.1 S;have a3:k<ops.size:=(A0.1 T).1
     by_cases hkj:k=j
     ·subst hkj
      have:k<listed.size:=by omega
      simp[this]at s
     ·rw[getD_set_ne true (iq hkj)]at s
      have:=d k (by omega);rw[getD_both s]at this;cases this
    ·have g:j<l:=by omega
     by_cases hji:j=i
     ·subst hji
      have U:u=w:=by
       rcases v with⟨h,_⟩|⟨_,h⟩
       ·exact h
       ·rw[getD_both B]at h;cases h
      subst U;unfold wpOp;simp only[b];rw[ax (Z p _ (hwant _ _ b))];refine .inl (Oper.wp_mono (λa' z hq=>?_) (H2 p b a c.defers r A));obtain⟨rfl,hz⟩:=hq;refine ih _ _ z (m.set hj g) (C j p listed a b g F c) (.inr ⟨hz,?_⟩) y;have:j<listed.size:=by omega
      simp[this]
     ·have U:u=w\/R u:=by
       rcases v with⟨h,_⟩|⟨h,_⟩
       ·exact .inl h
       ·exact .inr h
      refine wpOp_of_stOp (K:=λa'=>wpAny P .any ops Q f (listed.setIfInBounds j true) a' u) (λ_ h=>h) ?_;refine(H1 u U j p b hji g a r A).stOp b ?_;refine ih _ _ u (m.set hj g) (C j p listed a b g F c) ?_ y;rcases v with⟨h,D⟩|⟨h,D⟩
      ·exact .inl ⟨h,by rw[getD_set_ne false hji];exact D⟩
      ·exact .inr ⟨h,getD_set_true D⟩
 refine W ops.size _ a0 w ⟨by simp,λj p _ hl=>(by rw[getD_replicate_false]at hl;cases hl),λt _ ht=>getD_in (by simpa using ht) (getD_replicate_false _ _)⟩ ⟨rfl,rfl,λt=>?_⟩ (.inl ⟨rfl,getD_replicate_false _ _⟩) ?_
 ·rw[getD_replicate_false,ap (by simp)]
 ·have:=G2 (Array.replicate ops.size false) (l+1)
  omega
end
end Go.Proofs.YtbeaaimcpkogcaaGreatDoor
