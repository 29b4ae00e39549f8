/- Lemmas on the way to the claim. -/
import Derived.Lib.FieldsP
import Derived.Lib.SplitLaws
import Derived.Lib.Join
import Derived.Lib.ItoaNum
import Derived.Lib.ParseIntB
import Derived.Test.YtbeaaimcpkogcaaGreatDoorM01
set_option linter.unusedSimpArgs false
set_option linter.unusedVariables false
namespace Go.Proofs.YtbeaaimcpkogcaaGreatDoor
variable {s:ByteArray} {pre rest:List UInt8} {u:UInt8} {ws:List (List UInt8)}
section
open Go
theorem vE:∀(n u:Nat),u<=n->∀c∈Lib.decDigits u,48<=c.toNat/\c.toNat<=57:=by
 intro n
 induction n with
 | zero =>
  intro u b c a;rw[Lib.decDigits,dif_pos (by omega)]at a;rw[aZ]at a;subst a;rw[UInt8.toNat_ofNat'];omega
 | succ n ih =>
  intro u b c a;rw[Lib.decDigits]at a;split at a
  ·rw[aZ]at a
   subst a;rw[UInt8.toNat_ofNat'];omega
  ·rcases aU.1 a with h|h
   ·exact ih (u/10) (by omega) c h
   ·rw[aZ]at h
    subst h;rw[UInt8.toNat_ofNat'];omega
theorem Jx (u:Nat):Lib.decDigits u≠[]:=by
 rw[Lib.decDigits];split<;>simp
theorem FY:∀(n u:Nat),u<=n->u<1099511627776->∀(r:List UInt8) (M:Nat),9223372036854775807<=M->Lib.parseUintM M 0 (Lib.decDigits u++r)=Lib.parseUintM M u r:=by
 intro n
 induction n with
 | zero =>
  intro u c b r M a;have:u=0:=by omega
  subst this;rw[Lib.decDigits,dif_pos (by omega),bB,bh,Lib.parseUintM];have e:(UInt8.ofNat (48+0)).toNat=48:=rfl;rw[e,ax (by omega),ap (by omega),ap (by omega)]
 | succ n ih =>
  intro u c b r M a;rw[Lib.decDigits];split
  ·rename_i h
   rw[bB,bh,Lib.parseUintM];have e:(UInt8.ofNat (48+u)).toNat=48+u:=by rw[UInt8.toNat_ofNat'];omega
   rw[e,ax (by omega),ap (by omega),ap (by omega)];congr 1;omega
  ·rename_i h
   rw[aF,ih (u/10) (by omega) (by omega) _ M a,bB,bh,Lib.parseUintM];have e:(UInt8.ofNat (48+u%10)).toNat=48+u%10:=by rw[UInt8.toNat_ofNat'];omega
   rw[e,ax (by omega),ap (by omega),ap (by omega)];congr 1;omega
theorem DK (u:Nat) (h:u<1099511627776):Lib.parseUintB 64 (Lib.decDigits u)=.ok u:=by
 unfold Lib.parseUintB;rw[ap (Jx u)];have:=FY u u (ag _) h [] (2^64-1) (by decide);rw[bo]at this;rw[this,Lib.parseUintM]
theorem AI (n:Int) (h0 : -1099511627776<n) (h1:n<1099511627776):Lib.parseIntB 64 (Lib.itoa n)=.ok n:=by
 unfold Lib.itoa;split
 ·rename_i hn
  unfold Lib.parseIntB;have e:(45:UInt8).toNat=45:=rfl;simp only[e];rw[ax (Or.inr trivial),DK n.natAbs (by omega)];show(if¬True/\2^(64-1)<=n.natAbs then Lib.NumEnd.range else if True/\2^(64-1)<n.natAbs then .range else .ok (if True then -(n.natAbs:Int)else n.natAbs))=.ok n;rw[ap (λh=>h.1 trivial),ap (λh=>by have:=h.2;omega),ax trivial];congr 1;omega
 ·rename_i hn
  have hd:=vE n.toNat n.toNat (ag _);have b:=DK n.toNat (by omega);cases hl:Lib.decDigits n.toNat with
  | nil=>exact absurd hl (Jx _)
  | cons c r =>
   have d:=hd c (by rw[hl];exact aL ..);unfold Lib.parseIntB;simp only;rw[ap (by omega),<- hl,b];have a:¬c.toNat=45:=by omega
   show(if¬(c.toNat=45)/\2^(64-1)<=n.toNat then Lib.NumEnd.range else if c.toNat=45/\2^(64-1)<n.toNat then .range else .ok (if c.toNat=45 then -(n.toNat:Int)else n.toNat))=.ok n;rw[ap (by omega),ap (by omega),ap a];congr 1;omega
def Gg (x:List UInt8):Prop:=x≠[]/\∀u∈x,u.toNat<128/\u≠32/\u≠10/\u≠59/\u≠58
theorem lM (n:Int):Gg (Lib.itoa n):=by
 have b:∀m c,c∈Lib.decDigits m->c.toNat<128/\c≠32/\c≠10/\c≠59/\c≠58:=λm c a=>by
  have:=vE m m (ag _) c a;refine⟨by omega,?_,?_,?_,?_⟩<;>(rintro rfl;simp at this)
 unfold Lib.itoa;split
 ·refine⟨by simp,λc a=>?_⟩
  rcases aR.1 a with rfl|a
  ·decide
  ·exact b _ c a
 ·exact⟨Jx _,λc a=>b _ c a⟩
theorem Gg.cons {c:UInt8} {x:List UInt8} (h:Gg x) (hc:c.toNat<128/\c≠32/\c≠10/\c≠59/\c≠58):Gg (c::x):=
 ⟨by simp,λu hu=>(aR.1 hu).elim (λe=>e▸hc) (h.2 u)⟩
def iX (c:Nat):Bool:=c==32
theorem Jf (hs:s.data.toList=pre++u::rest):∃h:pre.length<s.size,s[pre.length]'h=u:=by
 have d:s.data.toList.length=pre.length+(rest.length+1):=by rw[hs];simp
 have b:pre.length<s.size:=by
  have:s.data.toList.length=s.size:=Array.length_toList;omega
 refine⟨b,?_⟩;have c:s.data.toList[pre.length]?=some u:=by rw[hs];simp
 have a:s.data.toList[pre.length]?=some (s[pre.length]'b):=by
  rw[MC];exact mB b
 rw[c]at a;injection a with a;exact a.symm
theorem xR (hs:s.data.toList=pre++u::rest) (hu:u.toNat<128):pre.length<s.size/\Utf8.decode s pre.length=(u.toNat,1):=by
 obtain⟨h,e⟩:=Jf hs;exact⟨h,by rw[decode_ascii s _ h (by rw[e];exact hu),e]⟩
theorem BL (s:ByteArray):∀(x pre rest:List UInt8) (f a:Nat) (acc:List (Nat×Nat)),s.data.toList=pre++(x++rest)->(∀u∈x,u.toNat<128/\u≠32)->Lib.spansFromP iX s (f+x.length) pre.length (some a) acc=Lib.spansFromP iX s f (pre.length+x.length) (some a) acc
 | [],pre,rest,f,a,acc,_,_=>rfl
 | u::x,pre,rest,f,a,acc,hs,hx=>by
  have c:=hx u (aL ..);obtain⟨d,g⟩:=xR (rest:=x++rest) (by simpa using hs) c.1;have h:iX u.toNat=false:=by
   unfold iX;rw[bS];intro e;exact c.2 (UInt8.toNat_inj.1 e)
  have b:=BL s x (pre++[u]) rest f a acc (by simpa using hs) (λv hv=>hx v (aP _ hv));rw[aC,<- Nat.add_assoc,Lib.spansFromP,ax d,g];simp only[h];rw[ac]at b;simp at b;rw[show pre.length+(x.length+1)=pre.length+1+x.length by omega];exact b
theorem BK (s:ByteArray) (u:UInt8) (x pre rest:List UInt8) (f:Nat) (acc:List (Nat×Nat)) (hs:s.data.toList=pre++(u::x++rest)) (hx:∀v∈u::x,v.toNat<128/\v≠32):Lib.spansFromP iX s (f+(x.length+1)) pre.length none acc=Lib.spansFromP iX s f (pre.length+(x.length+1)) (some pre.length) acc:=by
 have b:=hx u (aL ..);obtain⟨c,d⟩:=xR (rest:=x++rest) (by simpa using hs) b.1;have g:iX u.toNat=false:=by
  unfold iX;rw[bS];intro e;exact b.2 (UInt8.toNat_inj.1 e)
 have a:=BL s x (pre++[u]) rest f pre.length acc (by simpa using hs) (λv hv=>hx v (aP _ hv));rw[<- Nat.add_assoc,Lib.spansFromP,ax c,d];simp only[g];rw[ac]at a;simp at a;rw[show pre.length+(x.length+1)=pre.length+1+x.length by omega];exact a
theorem EL (s:ByteArray) (pre rest:List UInt8) (f a:Nat) (acc:List (Nat×Nat)) (hs:s.data.toList=pre++32::rest):Lib.spansFromP iX s (f+1) pre.length (some a) acc=Lib.spansFromP iX s f (pre.length+1) none (acc++[(a,pre.length)]):=by
 obtain⟨b,c⟩:=xR hs (by decide);rw[Lib.spansFromP,ax b,c];rfl
theorem Do (s:ByteArray) (pre x rest:List UInt8) (hs:s.data.toList=pre++(x++rest)):s.extract pre.length (pre.length+x.length)=⟨x.toArray⟩:=by
 apply ByteArray.ext;apply Array.toList_inj.1;rw[ByteArray.data_extract,Array.toList_extract,hs];simp
theorem yD (s:ByteArray):∀(ws:List (List UInt8)) (pre:List UInt8) (f:Nat) (acc:List (Nat×Nat)),(∀x∈ws,x≠[]/\∀u∈x,u.toNat<128/\u≠32)->ws≠[]->s.data.toList=pre++Lib.join ws [32] ->
  (Lib.closeSpans s (Lib.spansFromP iX s (f+(Lib.join ws [32]).length) pre.length none acc)).map (λx=>s.extract x.1 x.2)=acc.map (λx=>s.extract x.1 x.2)++ws.map λx=>(⟨x.toArray⟩:ByteArray)
 | [],_,_,_,_,h,_=>absurd rfl h
 | [x],pre,f,acc,hw,_,hs=>by
  rw[Lib.join_one]at hs ⊢;obtain⟨a,b⟩:=hw x (aL ..);cases x with
  | nil=>exact absurd rfl a
  | cons u x =>
   rw[aC,BK s u x pre [] f acc (by simpa using hs) b];have l:s.size=pre.length+(x.length+1):=by
    have:s.data.toList.length=s.size:=Array.length_toList;rw[<- this,hs];simp
   rw[Lib.spansFromP_end _ _ _ _ _ _ (by omega)];unfold Lib.closeSpans;simp only[dT,dX,kW];rw[l];have:=Do s pre (u::x) [] (by simpa using hs);rw[aC]at this;rw[this]
 | x::y::ws,pre,f,acc,hw,_,hs=>by
  obtain⟨a,b⟩:=hw x (aL ..);have k:Lib.join (x::y::ws) [32]=x++32::Lib.join (y::ws) [32]:=by
   rw[Lib.join_cons,Lib.join_cons];simp[Lib.joinTail]
  rw[k]at hs ⊢;cases x with
  | nil=>exact absurd rfl a
  | cons u x =>
   have i:(u::x++32::Lib.join (y::ws) [32]).length=(Lib.join (y::ws) [32]).length+1+(x.length+1):=by simp;omega
   rw[i,show f+((Lib.join (y::ws) [32]).length+1+(x.length+1))=f+(Lib.join (y::ws) [32]).length+1+(x.length+1) by omega,BK s u x pre (32::Lib.join (y::ws) [32]) _ acc hs b];have c:s.data.toList=(pre++(u::x))++32::Lib.join (y::ws) [32]:=by rw[hs];simp
   have d:=EL s (pre++(u::x)) _ (f+(Lib.join (y::ws) [32]).length) pre.length acc c;rw[ac,aC]at d;rw[d];have g:=yD s (y::ws) (pre++(u::x)++[32]) f (acc++[(pre.length,pre.length+(x.length+1))]) (λv hv=>hw v (aP _ hv)) (by simp) (by rw[hs];simp);have j:(pre++(u::x)++[32]).length=pre.length+(x.length+1)+1:=by simp;omega
   rw[j]at g;rw[g,dT];have e:=Do s pre (u::x) (32::Lib.join (y::ws) [32]) (by rw[hs]);rw[aC]at e;simp[e]
theorem vq (ws:List (List UInt8)) (hw:∀x∈ws,Gg x) (hne:ws≠[]):Lib.goFieldsP iX ⟨(Lib.join ws [32]).toArray⟩=ws.map λx=>(⟨x.toArray⟩:ByteArray):=by
 unfold Lib.goFieldsP Lib.spansOfP;have h:=yD ⟨(Lib.join ws [32]).toArray⟩ ws [] 0 [] (λx hx=>⟨(hw x hx).1,λu hu=>⟨((hw x hx).2 u hu).1,((hw x hx).2 u hu).2.1⟩⟩) hne (by simp);rw[cA]at h;have e:(⟨(Lib.join ws [32]).toArray⟩:ByteArray).size=(Lib.join ws [32]).length:=by simp[ByteArray.size]
 rw[e]
 simpa using h
theorem zn (c:UInt8):∀(x r:List UInt8),c ∉ x->Lib.index (x++c::r) [c]=(x.length:Int)
 | [],r,_=>by rw[bh,Lib.index];simp[List.isPrefixOf]
 | b::x,r,h=>by
  have a:c≠b:=λe=>h (e▸aL ..);have f:=zn c x r λe=>h (aP _ e);rw[bB,Lib.index];have d:([c]:List UInt8).isPrefixOf (b::(x++c::r))=false:=by simp[List.isPrefixOf,a]
  rw[d,f];simp
theorem zm (c:UInt8):∀(x:List UInt8),c ∉ x->Lib.index x [c] = -1
 | [],_=>by rw[Lib.index];simp
 | b::x,h=>by
  have a:c≠b:=λe=>h (e▸aL ..);have f:=zm c x λe=>h (aP _ e);rw[Lib.index];have d:([c]:List UInt8).isPrefixOf (b::x)=false:=by simp[List.isPrefixOf,a]
  rw[d,f];simp
def ch (ls:List (List UInt8)):List UInt8:=ls.flatMap λl=>l++[10]
theorem qL:∀ls:List (List UInt8),(∀l∈ls,(10:UInt8) ∉ l)->Lib.count (ch ls) [10]=ls.length
 | [],_=>by unfold ch;rw[List.flatMap_nil,Lib.count_one];rfl
 | l::ls,h=>by
  have a:=qL ls λx hx=>h x (aP _ hx);have b:=h l (aL ..);rw[Lib.count_one]at a ⊢;have e:ch (l::ls)=l++10::ch ls:=by unfold ch;simp
  rw[e,List.count_append,List.count_cons_self,a,List.count_eq_zero_of_not_mem b,aC];omega
theorem o6:∀ls:List (List UInt8),(∀l∈ls,(10:UInt8) ∉ l)->Lib.splitK [10] 0 ls.length (ch ls)=ls++[[]]
 | [],_=>rfl
 | l::ls,h=>by
  have d:=o6 ls λx hx=>h x (aP _ hx);have c:=h l (aL ..);have e:ch (l::ls)=l++10::ch ls:=by unfold ch;simp
  rw[aC,Lib.splitK,e,zn 10 l _ c,ap (by rw[beq_iff_eq];omega)];have a:(l++10::ch ls).take ((l.length:Int).toNat+0)=l:=by simp
  have b:(l++10::ch ls).drop ((l.length:Int).toNat+[(10:UInt8)].length)=ch ls:=by
   rw[show(l.length:Int).toNat+[(10:UInt8)].length=l.length+1 by simp,show l++10::ch ls=(l++[10])++ch ls by simp];rw[List.drop_append_of_le_length (by simp)];simp
  rw[a,b,d,bB]
theorem xf (ls:List (List UInt8)) (h:∀l∈ls,(10:UInt8) ∉ l):Lib.countB ⟨(ch ls).toArray⟩ ⟨#[10]⟩=ls.length/\Lib.splitB ⟨#[10]⟩ 0 (Lib.countB ⟨(ch ls).toArray⟩ ⟨#[10]⟩) ⟨(ch ls).toArray⟩=(ls++[[]]).map λx:List UInt8=>(⟨x.toArray⟩:ByteArray):=by
 have a:Lib.countB ⟨(ch ls).toArray⟩ ⟨#[10]⟩=ls.length:=qL ls h;refine⟨a,?_⟩;rw[a];have b:=Lib.splitB_data ⟨#[10]⟩ 0 ls.length ⟨(ch ls).toArray⟩;have c:=o6 ls h;have d:(Lib.splitB ⟨#[10]⟩ 0 ls.length ⟨(ch ls).toArray⟩).map (·.data.toList)=ls++[[]]:=by rw[b];exact c
 rw[<- d,List.map_map];have:((λx:List UInt8=>(⟨x.toArray⟩:ByteArray))∘λx:ByteArray=>x.data.toList)=id:=by funext x;rfl
 rw[this,List.map_id]
theorem G1 (c:UInt8) (x:List UInt8) (h:c ∉ x):Lib.cut x [c]=(x,[],false):=by
 unfold Lib.cut;have:=zm c x h;simp[this]
theorem Bt (c:UInt8) (x:List UInt8) (h:c ∉ x):Lib.hasSuffix x [c]=false/\Lib.trimSuffix x [c]=x:=by
 have e:Lib.hasSuffix x [c]=false:=by
  unfold Lib.hasSuffix;rw[<- Bool.not_eq_true];intro a;rw[List.isSuffixOf_iff_suffix]at a;obtain⟨t,b⟩:=a;exact h (by rw[<- b];simp)
 refine⟨e,?_⟩;unfold Lib.trimSuffix;rw[e];simp
theorem FC (h:u∈Lib.join ws [32]):u=32\/∃x∈ws,u∈x:=by
 cases ws with
 | nil=>simp[Lib.join_nil]at h
 | cons x r =>
  rw[Lib.join_cons]at h;rcases aU.1 h with h|h
  ·exact .inr ⟨x,aL ..,h⟩
  ·unfold Lib.joinTail at h
   rw[List.mem_flatten]at h;obtain⟨l,b,a⟩:=h;rw[bM]at b;obtain⟨y,c,rfl⟩:=b;rcases aU.1 a with a|a
   ·rw[aZ]at a;exact .inl a
   ·exact .inr ⟨y,aP _ c,a⟩
theorem AH (hw:∀x∈ws,Gg x):∀u∈Lib.join ws [32],u≠10/\u≠59:=λu a=>by
 rcases FC a with rfl|⟨x,b,a⟩
 ·decide
 ·have:=(hw x b).2 u a;exact⟨this.2.2.1,this.2.2.2.1⟩
end
end Go.Proofs.YtbeaaimcpkogcaaGreatDoor
