/- Lemmas on the way to the claim. -/
import Derived.Test.YtbeaaimcpkogcaaGreatDoorM16
set_option linter.unusedSimpArgs false
set_option linter.unusedVariables false
namespace Go.Proofs.YtbeaaimcpkogcaaGreatDoor
variable {c:UInt8} {l r:Tx} {ts:List Tok}
theorem wo {α:Type} (p:α->Bool):∀l:List α,l.take (l.takeWhile p).length=l.takeWhile p
 | []=>rfl
 | a::l=>by
  rw[ei];cases h:p a with
  | true=>simp[wo p l]
  | false=>simp
theorem Bp {α:Type} (p:α->Bool):∀l:List α,∀u∈l.takeWhile p,p u=true
 | [],u,h=>by cases h
 | a::l,u,h=>by
  rw[ei]at h;cases ha:p a with
  | false=>rw[ha]at h;cases h
  | true =>
   rw[ha]at h;rcases aR.1 h with rfl|h
   ·exact ha
   ·exact Bp p l u h
theorem GZ {α:Type} (p:α->Bool):∀l:List α,(l.dropWhile p).length<=l.length
 | []=>ag _
 | a::l=>by
  rw[yh];have:=GZ p l;split
  ·simp;omega
  ·exact ag _
theorem oH {ks:List Int} (h:ks.contains (dL c)=true):1<=dI ks (c::r):=by
 unfold dI;rw[ei,ax h];simp
theorem uW {u:UInt8} (h:dL u=3):48<=u.toNat/\u.toNat<=57:=by
 unfold dL ki at h;split at h
 ·omega
 ·split at h
  ·omega
  ·split at h
   ·omega
   ·split at h<;>omega
theorem AD (hl:(c::r).length<=32768):
  (∀s,dx (c::r)=some (none,s)->s.length<=r.length)/\∀t s,dx (c::r)=some (some t,s)->D8 t/\t.kind≠5/\s.length<=r.length:=by
 have d:r.length+1<=32768:=hl;unfold dx;simp only;split
 ·rename_i hs
  refine⟨λs e=>?_,λt s e=>by cases e⟩;cases e;rw[yh,ax]
  ·exact GZ _ _
  ·have:c=47:=by
    unfold jJ at hs;simp[List.isPrefixOf]at hs;exact hs.1.symm
   subst this;decide
 ·split
  ·exact⟨(λs e=>by cases e;exact ag _),(λt s e=>by cases e)⟩
  ·split
   ·rename_i hk
    split
    ·exact⟨(λs e=>by cases e),(λt s e=>by cases e)⟩
    ·have i:=oH (ks:=[2,3]) (c:=c) (r:=r) (by rw[hk];rfl)
     refine⟨(λs e=>by cases e),λt s e=>?_⟩;cases e;refine⟨⟨?_,λh2=>?_⟩,?_,?_⟩
     ·have:=List.length_take_le (dI [2,3] (c::r)) (c::r)
      have g:(c::r).length<=32768:=hl;simp only[bN];omega
     ·exfalso
      simp only at h2;split at h2<;>omega
     ·simp only;split<;>omega
     ·simp only[List.length_drop,aC];omega
   ·split
    ·rename_i hk
     have i:=oH (ks:=[3]) (c:=c) (r:=r) (by rw[hk];rfl);split
     ·exact⟨(λs e=>by cases e),(λt s e=>by cases e)⟩
     ·split
      ·exact⟨(λs e=>by cases e),(λt s e=>by cases e)⟩
      ·rename_i hd
       refine⟨(λs e=>by cases e),λt s e=>?_⟩;cases e;have j:(c::r).take (dI [3] (c::r))=(c::r).takeWhile λu=>[3].contains (dL u):=wo _ _;have a:((c::r).take (dI [3] (c::r))).length<=4294967296:=by
        have g:(c::r).length<=32768:=hl;rw[bN];omega
       refine⟨⟨a,λ_=>⟨λe=>?_,λu hu=>?_,by show tY (List.take (dI [3] (c::r)) (c::r))<=_;omega,a⟩⟩,by show(2:Int)≠5;decide,?_⟩
       ·have:((c::r).take (dI [3] (c::r))).length=0:=by
         have f:(c::r).take (dI [3] (c::r))=[]:=e;rw[f];rfl
        rw[bN,aC]at this;omega
       ·have b:u∈(c::r).take (dI [3] (c::r)):=hu
        rw[j]at b;have:=Bp _ _ u b;simp only[List.contains_cons,List.contains_nil,Bool.or_false,beq_iff_eq]at this;exact uW this
       ·simp only[List.length_drop,aC];omega
    ·split
     ·split
      ·rename_i ht2
       refine⟨(λs e=>by cases e),λt s e=>?_⟩;cases e;refine⟨⟨by simp;omega,λh=>absurd (show(3:Int)=2 from h) (by decide)⟩,by show(3:Int)≠5;decide,by simp⟩
      ·refine⟨(λs e=>by cases e),λt s e=>?_⟩
       cases e;refine⟨⟨by simp,λh=>absurd (show(3:Int)=2 from h) (by decide)⟩,by show(3:Int)≠5;decide,by simp⟩
     ·exact⟨(λs e=>by cases e),(λt s e=>by cases e)⟩
theorem I7:∀f s out ts,s.length<=32768->(∀t∈out,D8 t)->rp f s out=some ts ->
  (∀t∈ts,D8 t)/\ts≠[]/\(∀t,ts.getLast?=some t->t.kind=5)/\ts.length<=out.length+s.length+1:=by
 intro f
 induction f with
 | zero =>
  intro s out ts j i h;cases s with
  | nil =>
   rw[rp]at h;cases h;refine⟨λt e=>?_,by simp,λt e=>?_,by simp⟩
   ·rcases aU.1 e with e|e
    ·exact i t e
    ·simp at e;subst e;exact⟨by simp,λh=>absurd (show(5:Int)=2 from h) (by decide)⟩
   ·simp at e;subst e;rfl
  | cons c r=>rw[rp]at h;cases h
 | succ n ih =>
  intro s out ts j i h;cases s with
  | nil =>
   rw[rp]at h;cases h;refine⟨λt e=>?_,by simp,λt e=>?_,by simp⟩
   ·rcases aU.1 e with e|e
    ·exact i t e
    ·simp at e;subst e;exact⟨by simp,λh=>absurd (show(5:Int)=2 from h) (by decide)⟩
   ·simp at e;subst e;rfl
  | cons c r =>
   obtain⟨m,o⟩:=AD j;rw[rp]at h;cases he:dx (c::r)with
   | none=>rw[he]at h;cases h
   | some q =>
    rw[he]at h;obtain⟨v,k⟩:=q;cases v with
    | none =>
     have u:=m k he;obtain⟨a,b,l,d⟩:=ih k out ts (by simp at j;omega) i h;exact⟨a,b,l,by simp;omega⟩
    | some t =>
     obtain⟨p,_,u⟩:=o t k he;obtain⟨a,b,l,d⟩:=ih k (out++[t]) ts (by simp at j;omega) (λx g=>by
      rcases aU.1 g with g|g
      ·exact i x g
      ·simp at g;subst g;exact p) h
     refine⟨a,b,l,?_⟩;simp at d ⊢;omega
theorem ui (h:gI l=some ts):(∀t∈ts,D8 t)/\ts≠[]/\(∀t,ts.getLast?=some t->t.kind=5)/\ts.length<=32769:=by
 unfold gI at h;split at h
 ·cases h
 ·rename_i hl
  obtain⟨a,b,c,d⟩:=I7 _ _ [] ts (by omega) (λt ht=>by cases ht) h;exact⟨a,b,c,by simp at d;omega⟩
theorem uV {t:Tok} {s:Tx} (h:dx (c::r)=some (some t,s)) (hk:t.kind=1):fe t.text:=by
 unfold dx at h;simp only at h;split at h
 ·cases h
 ·split at h
  ·cases h
  ·split at h
   ·rename_i hk2
    split at h
    ·cases h
    ·rename_i hn
     simp only[aq,aQ]at h;obtain⟨rfl,_⟩:=h;have b:jx.contains ((c::r).take (dI [2,3] (c::r)))=false:=by
      cases hq:jx.contains ((c::r).take (dI [2,3] (c::r)))with
      | false=>rfl
      | true=>rw[hq]at hk;simp at hk
     have f:=oH (ks:=[2,3]) (c:=c) (r:=r) (by rw[hk2];rfl);have e:(c::r).take (dI [2,3] (c::r))=(c::r).takeWhile λu=>[2,3].contains (dL u):=wo _ _;refine⟨?_,λu hu=>?_,?_,b⟩
     ·show((c::r).take _).length<=32
      rw[bN];omega
     ·have a:u∈(c::r).take (dI [2,3] (c::r)):=hu
      rw[e]at a;have:=Bp _ _ u a
      simpa using this
     ·obtain⟨m,d⟩:∃m,dI [2,3] (c::r)=m+1:=⟨dI [2,3] (c::r)-1,by omega⟩
      exact⟨c,r.take m,by show(c::r).take _=_;rw[d];rfl,hk2⟩
   ·split at h
    ·split at h
     ·cases h
     ·split at h
      ·cases h
      ·simp only[aq,aQ]at h
       obtain⟨rfl,_⟩:=h;exact absurd (show(2:Int)=1 from hk) (by decide)
    ·split at h
     ·split at h
      ·simp only[aq,aQ]at h
       obtain⟨rfl,_⟩:=h;exact absurd (show(3:Int)=1 from hk) (by decide)
      ·simp only[aq,aQ]at h
       obtain⟨rfl,_⟩:=h;exact absurd (show(3:Int)=1 from hk) (by decide)
     ·cases h
theorem AE:∀f s out ts,(∀t∈out,t.kind=1->fe t.text)->rp f s out=some ts->∀t∈ts,t.kind=1->fe t.text:=by
 have fin:∀(out ts:List Tok),(∀t∈out,t.kind=1->fe t.text)->some (out++[⟨5,[]⟩])=some ts->∀t∈ts,t.kind=1->fe t.text:=λout ts a h t b hk=>by
  cases h;rcases aU.1 b with b|b
  ·exact a t b hk
  ·simp at b;subst b;exact absurd (show(5:Int)=1 from hk) (by decide)
 intro f
 induction f with
 | zero =>
  intro s out ts a h;cases s with
  | nil=>rw[rp]at h;exact fin out ts a h
  | cons c r=>rw[rp]at h;cases h
 | succ n ih =>
  intro s out ts a h;cases s with
  | nil=>rw[rp]at h;exact fin out ts a h
  | cons c r =>
   rw[rp]at h;cases he:dx (c::r)with
   | none=>rw[he]at h;cases h
   | some q =>
    rw[he]at h;obtain⟨g,e⟩:=q;cases g with
    | none=>exact ih e out ts a h
    | some t =>
     refine ih e (out++[t]) ts (λx d=>?_) h;rcases aU.1 d with d|d
     ·exact a x d
     ·simp at d;subst d;exact uV he
theorem p8 (h:gI l=some ts):Ws ⟨ts,0⟩/\ts.length<=32769:=by
 obtain⟨a,b,c,d⟩:=ui h;have hn:∀t∈ts,t.kind=1->fe t.text:=by
  unfold gI at h;split at h
  ·cases h
  ·exact AE _ _ [] ts (λt ht=>by cases ht) h
 exact⟨⟨by show ts.length<=_;omega,λt ht=>⟨(a t ht).1,λhk=>((a t ht).2 hk).2.2.1,hn t ht⟩,b,c,by show 0<=64;omega⟩,d⟩
theorem Ff {n:Nat} {fs:List Fun} (h:gI l=some ts) (hp:gr n [] ⟨ts,0⟩=some fs):(∀f∈fs,FunP f)/\fs.length<=32769:=by
 obtain⟨a,d⟩:=p8 h;obtain⟨b,c⟩:=Cb n [] ⟨ts,0⟩ fs a rfl (λf hf=>by cases hf) hp;exact⟨b,by have:fs.length<=0+ts.length:=c;omega⟩
end Go.Proofs.YtbeaaimcpkogcaaGreatDoor
