/- Lemmas on the way to the claim. -/
import Derived.Test.YtbeaaimcpkogcaaGreatDoorM13
set_option linter.unusedSimpArgs false
set_option linter.unusedVariables false
set_option maxHeartbeats 1000000
namespace Go.Proofs.YtbeaaimcpkogcaaGreatDoor
open Go.Proofs.Tryz Go.RowKit
variable {a b c m op:Int} {l:List Sm} {j k kj:Nat} {qs:List Par}
section
open Go.Shelf
theorem Dl {S:ByteArray} {L v:Int} (h:AM S L v=true):0<=v/\v<=15:=by
 unfold AM at h;split at h
 ·exact bm h
 ·have:=bm h;omega
theorem CL (h:mH op a b c m=true):(1<=op/\op<=53)/\(0<=a/\a<=15)/\(0<=b/\b<=15)/\(0<=c/\c<=15)/\(-524288<=m/\m<=524287)/\(ir (fm op) 106=false -> -2048<=m/\m<=2047):=by
 unfold mH at h;simp only[bH]at h;obtain⟨⟨e,⟨f,g⟩,i⟩,d⟩:=h;refine⟨bm e,Dl f,Dl g,Dl i,?_,?_⟩
 ·split at d
  ·exact bm d
  ·split at d<;>have:=bm d<;>omega
 ·intro j
  rw[j]at d;simp only[bl,gy]at d;split at d<;>have:=bm d<;>omega
theorem lu {d:Int} (h:a=c) (k:b=d):Ending.returned (.tuple #[.int .u32 a,.int .i64 b])=.returned (.tuple #[.int .u32 c,.int .i64 d]):=by rw[h,k]
theorem Me (h1:1<=op) (h2:op<=53):(nm op).toList.isEmpty=false:=by
 obtain⟨k,rfl⟩:∃k:Nat,op=k:=⟨op.toNat,by omega⟩;rw[yS (by omega)];exact CB k (by omega) (by omega)
theorem CK (h:¬(1<=op/\op<=53)):mH op a b c m=false:=by
 unfold mH;rw[iV h];rfl
theorem Jn (w0 w:World) (h:Below w0.heap.size w0 w) (ht:Tab w0) (op a b c m:Int) (ho:¬(1<=op/\op<=53)):
  Calls prog 48 #[.agg (fP op a b c m)] w λe w'=>e=.returned (.tuple #[.int .u32 (iS op a b c m),.int .i64 (jh op a b c m)])/\Below w0.heap.size w0 w':=by
 have f:¬mH op a b c m=true:=by rw[CK ho];simp
 have i:=aa (show iS op a b c m=0 from ap f);have j:=aa (show jh op a b c m=2 from ap f);obtain⟨x,g⟩:∃x,nm op=x:=⟨_,rfl⟩;have o:x.toList.isEmpty=true:=by rw[<- g,IP ho,ByteArray.toList_eq];rfl
 clear f ho
 go_enter func48,ntmps48
 go_wp2_with fail;refine(lF w0 w h ht op a b c m x g).mono ?_;rintro e p ⟨rfl,l,k,n,d⟩;go_wp2_with fail;go_ret2;exact⟨lu (by rw[i.out]) (by rw[j.out]),d⟩
theorem CM (ho:1<=op/\op<=53) (hf:fm op=⟨#[97,105]⟩):mH op a b c m=true<->(0<=a/\a<16)/\b=0/\c=0/\(-2048<=m/\m<2048):=by
 unfold mH AM;rw[hf];simp only[show ir ⟨#[97,105]⟩ 97=true from rfl,show ir ⟨#[97,105]⟩ 98=false from rfl,show ir ⟨#[97,105]⟩ 99=false from rfl,show ir ⟨#[97,105]⟩ 105=true from rfl,show ir ⟨#[97,105]⟩ 106=false from rfl,bl,tr,gy,bH,bw];omega
theorem Dw (ho:1<=op/\op<=53) (hf:fm op=⟨#[97,105]⟩):(if(0<=a/\a<16)/\b=0/\c=0/\(-2048<=m/\m<2048)then op*16777216+a%16*1048576+m%4096 else 0)=iS op a b c m/\(if(0<=a/\a<16)/\b=0/\c=0/\(-2048<=m/\m<2048)then 0 else 2)=jh op a b c m:=by
 have d:=CM (a:=a) (b:=b) (c:=c) (m:=m) ho hf
 by_cases hC:(0<=a/\a<16)/\b=0/\c=0/\(-2048<=m/\m<2048)
 ·unfold iS jh
  rw[ax hC,ax hC,ax (d.2 hC),ax (d.2 hC)];refine⟨?_,rfl⟩;unfold ez xo;rw[hf];simp only[show ir ⟨#[97,105]⟩ 106=false from rfl,bl,gy];split<;>omega
 ·unfold iS jh
  rw[ap hC,ap hC,ap (λh=>hC (d.1 h)),ap (λh=>hC (d.1 h))];exact⟨rfl,rfl⟩
theorem KF (ho:1<=op/\op<=53) (hf:fm op=⟨#[97,106]⟩):mH op a b c m=true<->(0<=a/\a<16)/\b=0/\c=0/\(-524288<=m/\m<524288):=by
 unfold mH AM;rw[hf];simp only[show ir ⟨#[97,106]⟩ 97=true from rfl,show ir ⟨#[97,106]⟩ 98=false from rfl,show ir ⟨#[97,106]⟩ 99=false from rfl,show ir ⟨#[97,106]⟩ 105=false from rfl,show ir ⟨#[97,106]⟩ 106=true from rfl,bl,tr,gy,bH,bw];omega
theorem Dv (ho:1<=op/\op<=53) (hf:fm op=⟨#[97,106]⟩):(if(0<=a/\a<16)/\b=0/\c=0/\(-524288<=m/\m<524288)then op*16777216+a%16*1048576+m%1048576 else 0)=iS op a b c m/\(if(0<=a/\a<16)/\b=0/\c=0/\(-524288<=m/\m<524288)then 0 else 2)=jh op a b c m:=by
 have d:=KF (a:=a) (b:=b) (c:=c) (m:=m) ho hf
 by_cases hC:(0<=a/\a<16)/\b=0/\c=0/\(-524288<=m/\m<524288)
 ·unfold iS jh
  rw[ax hC,ax hC,ax (d.2 hC),ax (d.2 hC)];refine⟨?_,rfl⟩;unfold ez xo;rw[hf];simp only[show ir ⟨#[97,106]⟩ 106=true from rfl,tr];split<;>omega
 ·unfold iS jh
  rw[ap hC,ap hC,ap (λh=>hC (d.1 h)),ap (λh=>hC (d.1 h))];exact⟨rfl,rfl⟩
theorem xe (ho:1<=op/\op<=53) (hf:fm op=⟨#[97,98,99]⟩):mH op a b c m=true<->(0<=a/\a<16)/\(0<=b/\b<16)/\(0<=c/\c<16)/\m=0:=by
 unfold mH AM;rw[hf];simp only[show ir ⟨#[97,98,99]⟩ 97=true from rfl,show ir ⟨#[97,98,99]⟩ 98=true from rfl,show ir ⟨#[97,98,99]⟩ 99=true from rfl,show ir ⟨#[97,98,99]⟩ 105=false from rfl,show ir ⟨#[97,98,99]⟩ 106=false from rfl,bl,tr,gy,bH,bw];omega
theorem zw (ho:1<=op/\op<=53) (hf:fm op=⟨#[97,98,99]⟩):(if(0<=a/\a<16)/\(0<=b/\b<16)/\(0<=c/\c<16)/\m=0 then op*16777216+a%16*1048576+b%16*65536+c%16*4096 else 0)=iS op a b c m/\(if(0<=a/\a<16)/\(0<=b/\b<16)/\(0<=c/\c<16)/\m=0 then 0 else 2)=jh op a b c m:=by
 have d:=xe (a:=a) (b:=b) (c:=c) (m:=m) ho hf
 by_cases hC:(0<=a/\a<16)/\(0<=b/\b<16)/\(0<=c/\c<16)/\m=0
 ·unfold iS jh
  rw[ax hC,ax hC,ax (d.2 hC),ax (d.2 hC)];refine⟨?_,rfl⟩;unfold ez xo;rw[hf];simp only[show ir ⟨#[97,98,99]⟩ 106=false from rfl,bl,gy];split<;>omega
 ·unfold iS jh
  rw[ap hC,ap hC,ap (λh=>hC (d.1 h)),ap (λh=>hC (d.1 h))];exact⟨rfl,rfl⟩
theorem xd (ho:1<=op/\op<=53) (hf:fm op=⟨#[97,98,105]⟩):mH op a b c m=true<->(0<=a/\a<16)/\(0<=b/\b<16)/\c=0/\(-2048<=m/\m<2048):=by
 unfold mH AM;rw[hf];simp only[show ir ⟨#[97,98,105]⟩ 97=true from rfl,show ir ⟨#[97,98,105]⟩ 98=true from rfl,show ir ⟨#[97,98,105]⟩ 99=false from rfl,show ir ⟨#[97,98,105]⟩ 105=true from rfl,show ir ⟨#[97,98,105]⟩ 106=false from rfl,bl,tr,gy,bH,bw];omega
theorem zv (ho:1<=op/\op<=53) (hf:fm op=⟨#[97,98,105]⟩):(if(0<=a/\a<16)/\(0<=b/\b<16)/\c=0/\(-2048<=m/\m<2048)then op*16777216+a%16*1048576+b%16*65536+m%4096 else 0)=iS op a b c m/\(if(0<=a/\a<16)/\(0<=b/\b<16)/\c=0/\(-2048<=m/\m<2048)then 0 else 2)=jh op a b c m:=by
 have d:=xd (a:=a) (b:=b) (c:=c) (m:=m) ho hf
 by_cases hC:(0<=a/\a<16)/\(0<=b/\b<16)/\c=0/\(-2048<=m/\m<2048)
 ·unfold iS jh
  rw[ax hC,ax hC,ax (d.2 hC),ax (d.2 hC)];refine⟨?_,rfl⟩;unfold ez xo;rw[hf];simp only[show ir ⟨#[97,98,105]⟩ 106=false from rfl,bl,gy];split<;>omega
 ·unfold iS jh
  rw[ap hC,ap hC,ap (λh=>hC (d.1 h)),ap (λh=>hC (d.1 h))];exact⟨rfl,rfl⟩
theorem CN (ho:1<=op/\op<=53) (hf:fm op=⟨#[97,98]⟩):mH op a b c m=true<->(0<=a/\a<16)/\(0<=b/\b<16)/\c=0/\m=0:=by
 unfold mH AM;rw[hf];simp only[show ir ⟨#[97,98]⟩ 97=true from rfl,show ir ⟨#[97,98]⟩ 98=true from rfl,show ir ⟨#[97,98]⟩ 99=false from rfl,show ir ⟨#[97,98]⟩ 105=false from rfl,show ir ⟨#[97,98]⟩ 106=false from rfl,bl,tr,gy,bH,bw];omega
theorem Dx (ho:1<=op/\op<=53) (hf:fm op=⟨#[97,98]⟩):(if(0<=a/\a<16)/\(0<=b/\b<16)/\c=0/\m=0 then op*16777216+a%16*1048576+b%16*65536 else 0)=iS op a b c m/\(if(0<=a/\a<16)/\(0<=b/\b<16)/\c=0/\m=0 then 0 else 2)=jh op a b c m:=by
 have d:=CN (a:=a) (b:=b) (c:=c) (m:=m) ho hf
 by_cases hC:(0<=a/\a<16)/\(0<=b/\b<16)/\c=0/\m=0
 ·unfold iS jh
  rw[ax hC,ax hC,ax (d.2 hC),ax (d.2 hC)];refine⟨?_,rfl⟩;unfold ez xo;rw[hf];simp only[show ir ⟨#[97,98]⟩ 106=false from rfl,bl,gy];split<;>omega
 ·unfold iS jh
  rw[ap hC,ap hC,ap (λh=>hC (d.1 h)),ap (λh=>hC (d.1 h))];exact⟨rfl,rfl⟩
theorem IY (ho:1<=op/\op<=53) (hf:fm op=⟨#[]⟩):mH op a b c m=true<->a=0/\b=0/\c=0/\m=0:=by
 unfold mH AM;rw[hf];simp only[show ir ⟨#[]⟩ 97=false from rfl,show ir ⟨#[]⟩ 98=false from rfl,show ir ⟨#[]⟩ 99=false from rfl,show ir ⟨#[]⟩ 105=false from rfl,show ir ⟨#[]⟩ 106=false from rfl,bl,gy,bH,bw];omega
theorem GY (ho:1<=op/\op<=53) (hf:fm op=⟨#[]⟩):(if a=0/\b=0/\c=0/\m=0 then op*16777216 else 0)=iS op a b c m/\(if a=0/\b=0/\c=0/\m=0 then 0 else 2)=jh op a b c m:=by
 have d:=IY (a:=a) (b:=b) (c:=c) (m:=m) ho hf
 by_cases hC:a=0/\b=0/\c=0/\m=0
 ·unfold iS jh
  rw[ax hC,ax hC,ax (d.2 hC),ax (d.2 hC)];refine⟨?_,rfl⟩;unfold ez xo;rw[hf];simp only[show ir ⟨#[]⟩ 106=false from rfl,bl,gy];split<;>omega
 ·unfold iS jh
  rw[ap hC,ap hC,ap (λh=>hC (d.1 h)),ap (λh=>hC (d.1 h))];exact⟨rfl,rfl⟩
theorem IX (ho:1<=op/\op<=53) (hf:fm op=⟨#[105]⟩):mH op a b c m=true<->a=0/\b=0/\c=0/\(-2048<=m/\m<2048):=by
 unfold mH AM;rw[hf];simp only[show ir ⟨#[105]⟩ 97=false from rfl,show ir ⟨#[105]⟩ 98=false from rfl,show ir ⟨#[105]⟩ 99=false from rfl,show ir ⟨#[105]⟩ 105=true from rfl,show ir ⟨#[105]⟩ 106=false from rfl,bl,tr,gy,bH,bw];omega
theorem GX (ho:1<=op/\op<=53) (hf:fm op=⟨#[105]⟩):(if a=0/\b=0/\c=0/\(-2048<=m/\m<2048)then op*16777216+m%4096 else 0)=iS op a b c m/\(if a=0/\b=0/\c=0/\(-2048<=m/\m<2048)then 0 else 2)=jh op a b c m:=by
 have d:=IX (a:=a) (b:=b) (c:=c) (m:=m) ho hf
 by_cases hC:a=0/\b=0/\c=0/\(-2048<=m/\m<2048)
 ·unfold iS jh
  rw[ax hC,ax hC,ax (d.2 hC),ax (d.2 hC)];refine⟨?_,rfl⟩;unfold ez xo;rw[hf];simp only[show ir ⟨#[105]⟩ 106=false from rfl,bl,gy];split<;>omega
 ·unfold iS jh
  rw[ap hC,ap hC,ap (λh=>hC (d.1 h)),ap (λh=>hC (d.1 h))];exact⟨rfl,rfl⟩
theorem zx (w0 w:World) (h:Below w0.heap.size w0 w) (ht:Tab w0) (op a b c m:Int):
  Calls prog 48 #[.agg (fP op a b c m)] w λe w'=>e=.returned (.tuple #[.int .u32 (iS op a b c m),.int .i64 (jh op a b c m)])/\Below w0.heap.size w0 w':=by
 by_cases ho:1<=op/\op<=53
 ·have f:=Me ho.1 ho.2
  rcases kL op with d|d|d|d|d|d|d
  ·refine(K7 w0 w h ht op a b c m ho.1 ho.2 _ rfl f d).mono ?_
   rintro e w' ⟨rfl,g⟩;exact⟨lu (Dw ho d).1 (Dw ho d).2,g⟩
  ·refine(K6 w0 w h ht op a b c m ho.1 ho.2 _ rfl f d).mono ?_
   rintro e w' ⟨rfl,g⟩;exact⟨lu (Dv ho d).1 (Dv ho d).2,g⟩
  ·refine(Jp w0 w h ht op a b c m ho.1 ho.2 _ rfl f d).mono ?_
   rintro e w' ⟨rfl,g⟩;exact⟨lu (zw ho d).1 (zw ho d).2,g⟩
  ·refine(Jo w0 w h ht op a b c m ho.1 ho.2 _ rfl f d).mono ?_
   rintro e w' ⟨rfl,g⟩;exact⟨lu (zv ho d).1 (zv ho d).2,g⟩
  ·refine(K8 w0 w h ht op a b c m ho.1 ho.2 _ rfl f d).mono ?_
   rintro e w' ⟨rfl,g⟩;exact⟨lu (Dx ho d).1 (Dx ho d).2,g⟩
  ·refine(Mo w0 w h ht op a b c m ho.1 ho.2 _ rfl f d).mono ?_
   rintro e w' ⟨rfl,g⟩;exact⟨lu (GY ho d).1 (GY ho d).2,g⟩
  ·refine(Mn w0 w h ht op a b c m ho.1 ho.2 _ rfl f d).mono ?_
   rintro e w' ⟨rfl,g⟩;exact⟨lu (GX ho d).1 (GX ho d).2,g⟩
 ·exact Jn w0 w h ht op a b c m ho
end
def stA:Sm->List Sm
 | .iff _ a _=>a
 | .whl _ a=>a
 | _=>[]
def stB:Sm->List Sm
 | .iff _ _ b=>b
 | _=>[]
def A5:Sm->List Par
 | .var n p _=>[⟨n,p⟩]
 | _=>[]
theorem Bi (x:Sm) (k:Nat):oA x k=(A5 x++((dH (stA x) k).1++(dH (stB x) (dH (stA x) k).2).1),(dH (stB x) (dH (stA x) k).2).2):=by
 cases x<;>simp[oA,A5,stA,stB,dH]
theorem sD (x:Sm):bL (stA x)+bL (stB x)+1<=cP x:=by
 cases x<;>simp[stA,stB,cP,bL]<;>omega
theorem yp (x:Sm):(A5 x).length<=1:=by cases x<;>simp[A5]
theorem wl (x:Sm) (k:Nat):(A5 x++(dH (stA x) k).1).length+bL (stB x)<=cP x:=by
 have a:=mM (stA x) k;have b:=sD x;have c:=yp x;rw[ac];omega
theorem pY:∀(n:Nat) (l:List Sm) (k:Nat),bL l<=n->(dH l k).2<=k
 | n,[],k,_=>by rw[dH];exact ag _
 | n,x::xs,0,_=>by rw[dH];exact ag _
 | 0,x::xs,k+1,h=>by have a:=sD x;rw[bL]at h;omega
 | n+1,x::xs,k+1,h=>by
  have a:=sD x;rw[bL]at h;rw[dH];simp only;rw[Bi];simp only;have b:=pY n (stA x) k (by omega);have c:=pY n (stB x) (dH (stA x) k).2 (by omega);have d:=pY n xs (dH (stB x) (dH (stA x) k).2).2 (by omega);omega
def SlR (l:List Sm) (k:Nat) (j:Nat) (qs:List Par) (kj:Nat):Prop:=dH l k=(qs++(dH (l.drop j) kj).1,(dH (l.drop j) kj).2)/\qs.length+bL (l.drop j)<=bL l/\kj<=k
theorem SlR.start (l:List Sm) (k:Nat):SlR l k 0 [] k:=⟨by simp,by simp,ag _⟩
theorem SlR.done (h:SlR l k j qs kj) (hj:j=l.length):dH l k=(qs,kj):=by
 rw[h.1,hj,List.drop_length,dH];simp
theorem SlR.zero (h:SlR l k j qs 0) (hj:j<l.length):dH l k=(qs,0):=by
 rw[h.1];cases e:l.drop j with
 | nil=>have:=aB List.length e;rw[List.length_drop]at this;simp at this;omega
 | cons x xs=>rw[dH];simp
theorem SlR.next {x:Sm} (h:SlR l k j qs (kj+1)) (hx:l[j]?=some x):
  SlR l k (j+1) (qs++A5 x++(dH (stA x) kj).1++(dH (stB x) (dH (stA x) kj).2).1) (dH (stB x) (dH (stA x) kj).2).2/\qs.length+cP x<=bL l:=by
 obtain⟨b,c,o⟩:=h;obtain⟨d,a⟩:=aE.1 hx;have e:l.drop j=x::l.drop (j+1):=by rw[<- a];exact Ef d
 rw[e,dH,Bi]at b;rw[e,bL]at c;have f:=wl x kj;have g:=mM (stB x) (dH (stA x) kj).2;have i:=pY _ (stA x) kj (ag _);have m:=pY _ (stB x) (dH (stA x) kj).2 (ag _);have n:(A5 x++(dH (stA x) kj).1).length=(A5 x).length+(dH (stA x) kj).1.length:=ac;refine⟨⟨?_,?_,by omega⟩,by omega⟩
 ·rw[b];simp[aF]
 ·simp only[ac];omega
end Go.Proofs.YtbeaaimcpkogcaaGreatDoor
