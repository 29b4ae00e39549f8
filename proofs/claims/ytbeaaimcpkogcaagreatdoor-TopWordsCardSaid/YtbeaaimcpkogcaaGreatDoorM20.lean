/- Lemmas on the way to the claim. -/
import Derived.Test.YtbeaaimcpkogcaaGreatDoorM08
import Derived.Test.YtbeaaimcpkogcaaGreatDoorM19
set_option linter.unusedSimpArgs false
set_option linter.unusedVariables false
namespace Go.Proofs.YtbeaaimcpkogcaaGreatDoor
section
open Go
def sr:List UInt8:=[119,111,114,100]
def sI (a:Int):List UInt8:=99::Lib.itoa a
def dg (W:Int) (u:UInt8):List UInt8:=if u=97 then sI (dA W)else if u=98 then sI (dB W)else if u=99 then sI (dC W)else Lib.itoa (dM W)
def opT (W:Int):List UInt8:=(nm (dO W)).data.toList
def di (W:Int):List UInt8:=(fm (dO W)).data.toList
def dJ (W:Int):List (List UInt8):=if dO W=0 then[sr,Lib.itoa W]else opT W::(di W).map (dg W)
def dP (W:Int):List UInt8:=Lib.join (dJ W) [32]
theorem zC:∀(k u:Nat),u<10^(k+1)->(Lib.decDigits u).length<=k+1
 | 0,u,h=>by
  rw[Lib.decDigits,dif_pos (by omega)];simp
 | k+1,u,h=>by
  rw[Lib.decDigits];split
  ·simp
  ·have:=zC k (u/10) (by rw[Nat.pow_succ]at h;omega)
   simp;omega
theorem nQ (k:Nat) (n:Int) (h:n.natAbs<10^(k+1)):(Lib.itoa n).length<=k+2:=by
 unfold Lib.itoa;split
 ·have:=zC k n.natAbs h
  simp;omega
 ·have:=zC k n.toNat (by omega)
  omega
theorem qP (k:Nat) (n:Int) (h0:0<=n) (h:n.natAbs<10^(k+1)):(Lib.itoa n).length<=k+1:=by
 unfold Lib.itoa;rw[ap (by omega)];exact zC k n.toNat (by omega)
theorem mZ (W:Int) (h:dO W≠0):(1<=dO W/\dO W<=53)/\(0<=dA W/\dA W<=15)/\(0<=dB W/\dB W<=15)/\(0<=dC W/\dC W<=15)/\(-524288<=dM W/\dM W<=524287)/\jh (dO W) (dA W) (dB W) (dC W) (dM W)=0/\iS (dO W) (dA W) (dB W) (dC W) (dM W)=W:=by
 rcases Dz W with⟨_,_,_,a,b⟩|⟨_,a,_⟩
 ·have:=CL (Dy a)
  exact⟨this.1,this.2.1,this.2.2.1,this.2.2.2.1,this.2.2.2.2.1,a,b⟩
 ·exact absurd a h
theorem IQ:∀k:Fin 54,1<=k.val->(nmN k.val).data.toList≠[]/\(nmN k.val).data.toList.length<=5/\(nmN k.val).data.toList≠sr/\∀u∈(nmN k.val).data.toList,u.toNat<128/\u≠32/\u≠10/\u≠59/\u≠58:=by decide +kernel
theorem sT (W:Int) (h:dO W≠0):Gg (opT W)/\(opT W).length<=5/\opT W≠sr:=by
 obtain⟨⟨b,c⟩,_⟩:=mZ W h;obtain⟨k,a⟩:∃k:Nat,dO W=k:=⟨(dO W).toNat,by omega⟩;have:=IQ ⟨k,by omega⟩ (by show 1<=k;omega);unfold opT;rw[a,yS (by omega)];exact⟨⟨this.1,this.2.2.2⟩,this.2.1,this.2.2.1⟩
theorem AP (W:Int) (u:UInt8):Gg (dg W u):=by
 unfold dg sI;have a:((99:UInt8).toNat<128/\(99:UInt8)≠32/\(99:UInt8)≠10/\(99:UInt8)≠59/\(99:UInt8)≠58):=by decide
 split
 ·exact(lM _).cons a
 ·split
  ·exact(lM _).cons a
  ·split
   ·exact(lM _).cons a
   ·exact lM _
theorem ow (W:Int):∀x∈dJ W,Gg x:=by
 intro x a;unfold dJ at a;split at a
 ·rcases aR.1 a with rfl|a
  ·exact⟨by decide,by decide⟩
  ·rw[aZ]at a;subst a;exact lM _
 ·rename_i h
  rcases aR.1 a with rfl|a
  ·exact(sT W h).1
  ·obtain⟨u,_,rfl⟩:=bM.1 a
   exact AP W u
theorem EA (W:Int):dJ W≠[]:=by unfold dJ;split<;>simp
theorem xF (W:Int):Lib.goFieldsP iX ⟨(dP W).toArray⟩=(dJ W).map λx=>(⟨x.toArray⟩:ByteArray):=vq _ (ow W) (EA W)
theorem rF (W:Int):∀u∈dP W,u≠10/\u≠59:=AH (ow W)
theorem FO (W:Int) (x:List UInt8) (h:(dJ W)[0]?=some x):(58:UInt8) ∉ x:=λhm=>((ow W x (aJ h)).2 58 hm).2.2.2.2 rfl
theorem zh:∀(ws:List (List UInt8)),(Lib.join ws [32]).length<=(ws.map λx=>x.length+1).sum
 | []=>by simp[Lib.join_nil]
 | x::r=>by
  have:=zh r;rw[Lib.join_cons];cases r with
  | nil=>simp[Lib.joinTail]
  | cons y r =>
   rw[Lib.join_cons]at this;simp[Lib.joinTail]at this ⊢;omega
theorem wI {a:Int} (h0:0<=a) (h1:a<=15):(sI a).length<=3:=by
 have:=qP 1 a h0 (by omega);unfold sI;simp;omega
theorem lQ (W:Int) (h:dO W≠0) (u:UInt8):(dg W u).length<=8/\(u=97\/u=98\/u=99->(dg W u).length<=3):=by
 obtain⟨_,d,e,f,g,_⟩:=mZ W h;have a:=wI d.1 d.2;have b:=wI e.1 e.2;have c:=wI f.1 f.2;have m:=nQ 5 (dM W) (by omega);unfold dg;split
 ·exact⟨by omega,λ_=>a⟩
 ·split
  ·exact⟨by omega,λ_=>b⟩
  ·split
   ·exact⟨by omega,λ_=>c⟩
   ·rename_i h1 h2 h3
    exact⟨by omega,λh=>by rcases h with h|h|h<;>contradiction⟩
theorem lY (W:Int) (h0:0<=W) (h1:W<4294967296):(dP W).length<=30:=by
 have:=zh (dJ W);unfold dP
 by_cases h:dO W=0
 ·have e:dJ W=[sr,Lib.itoa W]:=ax h
  rw[e]at this ⊢;have:=qP 9 W h0 (by omega);simp[sr]at *;omega
 ·have e:dJ W=opT W::(di W).map (dg W):=ap h
  have j:=(sT W h).2.1;have b:=λu=>(lQ W h u).1;have c:=(lQ W h 97).2 (.inl rfl);have d:=(lQ W h 98).2 (.inr (.inl rfl));have f:=(lQ W h 99).2 (.inr (.inr rfl));have g:=b 105;have i:=b 106;rw[e]at this ⊢;unfold di at this ⊢;rcases kL (dO W)with a|a|a|a|a|a|a<;>rw[a]at this ⊢<;>simp at this ⊢<;>omega
theorem yP:∀(f k j:Nat),k<=j->j<k+f->(∀i,k<=i->i<j->((nmN i).toList==(nmN j).toList)=false)->mF (nmN j) f k=(j:Int)
 | 0,k,j,h1,h2,_=>by omega
 | f+1,k,j,h1,h2,h=>by
  rw[mF]
  by_cases hk:k=j
  ·subst hk
   rw[ax (by simp)]
  ·rw[ap (by rw[h k (ag _) (by omega)];simp)]
   exact yP f (k+1) j (by omega) (by omega) λi a b=>h i (by omega) b
theorem Fm:∀i j:Fin 54,i.val<j.val->((nmN i.val).data.toList==(nmN j.val).data.toList)=false:=by decide +kernel
theorem IK {k:Int} (h1:1<=k) (h2:k<=53):JJ (nm k)=k:=by
 obtain⟨j,rfl⟩:∃j:Nat,k=j:=⟨k.toNat,by omega⟩;rw[yS (by omega)];refine yP 53 1 j (by omega) (by omega) λi a b=>?_;rw[ByteArray.toList_eq,ByteArray.toList_eq];exact Fm ⟨i,by omega⟩ ⟨j,by omega⟩ b
theorem Cz (W:Int) (h:dO W≠0):(ir (fm (dO W)) 97=false->dA W=0)/\(ir (fm (dO W)) 98=false->dB W=0)/\(ir (fm (dO W)) 99=false->dC W=0)/\(ir (fm (dO W)) 105=false->ir (fm (dO W)) 106=false->dM W=0):=by
 have a:=Dy (mZ W h).2.2.2.2.2.1;unfold mH AM at a;simp only[bH,bw]at a;obtain⟨⟨_,⟨b,c⟩,d⟩,g⟩:=a;refine⟨λe=>?_,λe=>?_,λe=>?_,λe f=>?_⟩
 ·rw[e]at b;simpa using b
 ·rw[e]at c;simpa using c
 ·rw[e]at d;simpa using d
 ·rw[e,f]at g;simpa using g
end
end Go.Proofs.YtbeaaimcpkogcaaGreatDoor
