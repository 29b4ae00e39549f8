/- Lemmas on the way to the claim. -/
import Derived.Test.YtbeaaimcpkogcaaGreatDoorM41
set_option linter.unusedSimpArgs false
set_option linter.unusedVariables false
set_option maxHeartbeats 4000000
set_option maxRecDepth 100000
namespace Go.Proofs.YtbeaaimcpkogcaaGreatDoor
open Go.Proofs.Tryz Go.RowKit
variable {w:World} {A1 A2:Nat->Prop}
def Tru (w:World) (e:Ending) (w':World):Prop:=e=.returned (.bool true)/\∃k,w'=w.drewN k
theorem Tru.of {k:Nat} {e:Ending} {w':World} (h:Tru (w.drewN k) e w'):Tru w e w':=by
 obtain⟨a,m,b⟩:=h;exact⟨a,k+m,by rw[b,World.drewN_drewN]⟩
theorem Tru.q {f:FuncId} {args:Array Value} {w:World} {q n:Nat} (h:Calls prog f args (w.drewN (q+n)) (Tru (w.drewN (q+n)))):Calls prog f args (w.drewN (q+n)) λe w''=>e=.returned (.bool true)/\∃m,w''=w.drewN (q+m):=
 h.mono λe w' h=>⟨h.1,by obtain⟨m,a⟩:=h.2;exact⟨n+m,by rw[a,World.drewN_drewN,Nat.add_assoc]⟩⟩
theorem oN (w:World) (k:Nat) (a:Addr):(w.drewN k).cell? a=w.cell? a:=aI (w:=w) (w':=w.drewN k) rfl
theorem Mv (w:World) (a b:Nat) (h:Calls prog 220 #[pB a,pB b] w (Tru w)):Calls prog 219 #[pB a,pB b,.func (.func 220) #[] #[]] w (Tru w):=by
 have H:=aa h;clear h
 go_enter func219,ntmps219
 go_wp2_with fail;refine H.mono ?_;rintro e u ⟨rfl,k,rfl⟩;clear H;go_wp2_with fail;go_ret;exact⟨rfl,k,rfl⟩
theorem E5 (w:World) (a b:Nat) (h:Calls prog 220 #[pB a,pB b] w (Tru w)):Calls prog 178 #[pB a,pB b] w (Tru w):=by
 have H:=aa (Mv w a b h);clear h
 go_enter func178,ntmps178
 go_wp2_with fail;refine H.mono ?_;rintro e u ⟨rfl,k,rfl⟩;clear H;go_wp2_with fail;go_ret;exact⟨rfl,k,rfl⟩
theorem Ms (w:World) (a b:Nat) (h:Calls prog 177 #[pB a,pB b] w (Tru w)):Calls prog 176 #[pB a,pB b,.func (.func 177) #[] #[]] w (Tru w):=by
 have H:=aa h;clear h
 go_enter func176,ntmps176
 go_wp2_with fail;refine H.mono ?_;rintro e u ⟨rfl,k,rfl⟩;clear H;go_wp2_with fail;go_ret;exact⟨rfl,k,rfl⟩
theorem EY (w:World) (a b:Nat) (h:Calls prog 177 #[pB a,pB b] w (Tru w)):Calls prog 122 #[pB a,pB b] w (Tru w):=by
 have H:=aa (Ms w a b h);clear h
 go_enter func122,ntmps122
 go_wp2_with fail;refine H.mono ?_;rintro e u ⟨rfl,k,rfl⟩;clear H;go_wp2_with fail;go_ret;exact⟨rfl,k,rfl⟩
theorem Mu (w:World) (a b:Nat) (h:Calls prog 119 #[pB a,pB b] w (Tru w)):Calls prog 118 #[pB a,pB b,.func (.func 119) #[] #[]] w (Tru w):=by
 have H:=aa h;clear h
 go_enter func118,ntmps118
 go_wp2_with fail;refine H.mono ?_;rintro e u ⟨rfl,k,rfl⟩;clear H;go_wp2_with fail;go_ret;exact⟨rfl,k,rfl⟩
theorem E0 (w:World) (a b:Nat) (h:Calls prog 119 #[pB a,pB b] w (Tru w)):Calls prog 70 #[pB a,pB b] w (Tru w):=by
 have H:=aa (Mu w a b h);clear h
 go_enter func70,ntmps70
 go_wp2_with fail;refine H.mono ?_;rintro e u ⟨rfl,k,rfl⟩;clear H;go_wp2_with fail;go_ret;exact⟨rfl,k,rfl⟩
theorem Mt (w:World) (a b:Nat) (h:Calls prog 68 #[pB a,pB b] w (Tru w)):Calls prog 67 #[pB a,pB b,.func (.func 68) #[] #[]] w (Tru w):=by
 have H:=aa h;clear h
 go_enter func67,ntmps67
 go_wp2_with fail;refine H.mono ?_;rintro e u ⟨rfl,k,rfl⟩;clear H;go_wp2_with fail;go_ret;exact⟨rfl,k,rfl⟩
theorem EZ (w:World) (a b:Nat) (h:Calls prog 68 #[pB a,pB b] w (Tru w)):Calls prog 21 #[pB a,pB b] w (Tru w):=by
 have H:=aa (Mt w a b h);clear h
 go_enter func21,ntmps21
 go_wp2_with fail;refine H.mono ?_;rintro e u ⟨rfl,k,rfl⟩;clear H;go_wp2_with fail;go_ret;exact⟨rfl,k,rfl⟩
theorem BX (w:World):Calls prog 178 #[.pointer none,.pointer none] w (Tru w):=by
 go_enter func178,ntmps178
 go_wp2
 go_ret;exact⟨rfl,0,rfl⟩
theorem MI (w:World) (v1 v2:Value) (b1 b2:List Nat) (A1 A2:Nat->Prop) (h1:li w A1 261 v1 b1.length (b1.map pB)) (h2:li w A2 261 v2 b2.length (b2.map pB)) (hl:b1.length=b2.length) (hn:b1.length<=1000000)
 (hs:∀(j x y:Nat) (u:World),u.heap=w.heap->b1[j]?=some x->b2[j]?=some y->Calls prog 178 #[pB x,pB y] u (Tru u)):
  Calls prog 221 #[v1,v2,.func (.func 178) #[] #[]] w (Tru w):=by
 obtain⟨n,c⟩:∃n,b1.length=n:=⟨_,rfl⟩;have a:b2.length=n:=by omega
 obtain⟨C,E,D,rfl⟩:=cc h1.1;obtain⟨F,b,G,rfl⟩:=cc h2.1;have p:E=b1.length:=eR h1.1 rfl;have q:b=b2.length:=eR h2.1 rfl;rw[c]at p;rw[a]at q;subst p q;have r:=aa (show li w A1 261 (.slice C b D) b (b1.map pB) by have:=h1;rw[c]at this;exact this);have s:=aa (show li w A2 261 (.slice F b G) b (b2.map pB) by have:=h2;rw[a]at this;exact this);have t:=aa hs;have g:=aa c;have h:=aa a;rw[c]at hn;clear h1 h2 hs c a hl
 go_enter func221,ntmps221
 go_wp2_with fail
 go_loopw [7,8,9,17] (λ_ _ _ s17 wr=>∃j:Nat,s17=.int .i64 j/\j<=b/\∃m,wr=w.drewN m) (λ_ _ _ s17 _=>match s17 with | .int _ j=>b-j.toNat|_=>0)
 case atStart=>exact⟨0,rfl,aV _,0,rfl⟩
 case round =>
  obtain⟨j,rfl,H,m,rfl⟩:=hrel
  by_cases hlt:j<b
  ·have d:decide ((j:Int)<(b:Int))=true:=by simp;omega
   have f:b-((j:Int)+1).toNat<b-(j:Int).toNat:=gd hlt;obtain⟨x,i⟩:∃x,b1[j]?=some x:=⟨_,aw (by have:=g.out;omega)⟩;obtain⟨y,l⟩:∃y,b2[j]?=some y:=⟨_,aw (by have:=h.out;omega)⟩;obtain⟨v,rfl,c1⟩:=eV r.out.1 hlt;obtain⟨z,rfl,c2⟩:=eV s.out.1 hlt;have A:(w.drewN m).cell? ⟨v,j,none⟩=some (pB x):=by rw[oN,c1,aG,i];rfl
   have B:(w.drewN m).cell? ⟨z,j,none⟩=some (pB y):=by rw[oN,c2,aG,l];rfl
   have o:=aa (t.out j x y (w.drewN m) rfl i l);clear c1 c2 i l;go_wp2_with fail;refine o.mono ?_;rintro e u ⟨rfl,k,rfl⟩;clear o A B;go_wp2_with fail;exact⟨⟨j+1,by simp,hlt,m+k,rfl⟩,f⟩
  ·have d:decide ((j:Int)<(b:Int))=false:=by simp;omega
   go_wp2_with fail;go_ret;exact⟨rfl,m,rfl⟩
theorem MH (w:World) (v1 v2:Value) (b1 b2:List Nat) (A1 A2:Nat->Prop) (h1:li w A1 195 v1 b1.length (b1.map pB)) (h2:li w A2 195 v2 b2.length (b2.map pB)) (hl:b1.length=b2.length) (hn:b1.length<=1000000)
 (hs:∀(j x y:Nat) (u:World),u.heap=w.heap->b1[j]?=some x->b2[j]?=some y->Calls prog 122 #[pB x,pB y] u (Tru u)):
  Calls prog 121 #[v1,v2,.func (.func 122) #[] #[]] w (Tru w):=by
 obtain⟨n,c⟩:∃n,b1.length=n:=⟨_,rfl⟩;have a:b2.length=n:=by omega
 obtain⟨C,E,D,rfl⟩:=cc h1.1;obtain⟨F,b,G,rfl⟩:=cc h2.1;have p:E=b1.length:=eR h1.1 rfl;have q:b=b2.length:=eR h2.1 rfl;rw[c]at p;rw[a]at q;subst p q;have r:=aa (show li w A1 195 (.slice C b D) b (b1.map pB) by have:=h1;rw[c]at this;exact this);have s:=aa (show li w A2 195 (.slice F b G) b (b2.map pB) by have:=h2;rw[a]at this;exact this);have t:=aa hs;have g:=aa c;have h:=aa a;rw[c]at hn;clear h1 h2 hs c a hl
 go_enter func121,ntmps121
 go_wp2_with fail
 go_loopw [7,8,9,17] (λ_ _ _ s17 wr=>∃j:Nat,s17=.int .i64 j/\j<=b/\∃m,wr=w.drewN m) (λ_ _ _ s17 _=>match s17 with | .int _ j=>b-j.toNat|_=>0)
 case atStart=>exact⟨0,rfl,aV _,0,rfl⟩
 case round =>
  obtain⟨j,rfl,H,m,rfl⟩:=hrel
  by_cases hlt:j<b
  ·have d:decide ((j:Int)<(b:Int))=true:=by simp;omega
   have f:b-((j:Int)+1).toNat<b-(j:Int).toNat:=gd hlt;obtain⟨x,i⟩:∃x,b1[j]?=some x:=⟨_,aw (by have:=g.out;omega)⟩;obtain⟨y,l⟩:∃y,b2[j]?=some y:=⟨_,aw (by have:=h.out;omega)⟩;obtain⟨v,rfl,c1⟩:=eV r.out.1 hlt;obtain⟨z,rfl,c2⟩:=eV s.out.1 hlt;have A:(w.drewN m).cell? ⟨v,j,none⟩=some (pB x):=by rw[oN,c1,aG,i];rfl
   have B:(w.drewN m).cell? ⟨z,j,none⟩=some (pB y):=by rw[oN,c2,aG,l];rfl
   have o:=aa (t.out j x y (w.drewN m) rfl i l);clear c1 c2 i l;go_wp2_with fail;refine o.mono ?_;rintro e u ⟨rfl,k,rfl⟩;clear o A B;go_wp2_with fail;exact⟨⟨j+1,by simp,hlt,m+k,rfl⟩,f⟩
  ·have d:decide ((j:Int)<(b:Int))=false:=by simp;omega
   go_wp2_with fail;go_ret;exact⟨rfl,m,rfl⟩
theorem MW (w:World) (v1 v2:Value) (b1 b2:List Nat) (A1 A2:Nat->Prop) (h1:li w A1 61 v1 b1.length (b1.map pB)) (h2:li w A2 61 v2 b2.length (b2.map pB)) (hl:b1.length=b2.length) (hn:b1.length<=1000000)
 (hs:∀(j x y:Nat) (u:World),u.heap=w.heap->b1[j]?=some x->b2[j]?=some y->Calls prog 70 #[pB x,pB y] u (Tru u)):
  Calls prog 69 #[v1,v2,.func (.func 70) #[] #[]] w (Tru w):=by
 obtain⟨n,c⟩:∃n,b1.length=n:=⟨_,rfl⟩;have a:b2.length=n:=by omega
 obtain⟨C,E,D,rfl⟩:=cc h1.1;obtain⟨F,b,G,rfl⟩:=cc h2.1;have p:E=b1.length:=eR h1.1 rfl;have q:b=b2.length:=eR h2.1 rfl;rw[c]at p;rw[a]at q;subst p q;have r:=aa (show li w A1 61 (.slice C b D) b (b1.map pB) by have:=h1;rw[c]at this;exact this);have s:=aa (show li w A2 61 (.slice F b G) b (b2.map pB) by have:=h2;rw[a]at this;exact this);have t:=aa hs;have g:=aa c;have h:=aa a;rw[c]at hn;clear h1 h2 hs c a hl
 go_enter func69,ntmps69
 go_wp2_with fail
 go_loopw [7,8,9,17] (λ_ _ _ s17 wr=>∃j:Nat,s17=.int .i64 j/\j<=b/\∃m,wr=w.drewN m) (λ_ _ _ s17 _=>match s17 with | .int _ j=>b-j.toNat|_=>0)
 case atStart=>exact⟨0,rfl,aV _,0,rfl⟩
 case round =>
  obtain⟨j,rfl,H,m,rfl⟩:=hrel
  by_cases hlt:j<b
  ·have d:decide ((j:Int)<(b:Int))=true:=by simp;omega
   have f:b-((j:Int)+1).toNat<b-(j:Int).toNat:=gd hlt;obtain⟨x,i⟩:∃x,b1[j]?=some x:=⟨_,aw (by have:=g.out;omega)⟩;obtain⟨y,l⟩:∃y,b2[j]?=some y:=⟨_,aw (by have:=h.out;omega)⟩;obtain⟨v,rfl,c1⟩:=eV r.out.1 hlt;obtain⟨z,rfl,c2⟩:=eV s.out.1 hlt;have A:(w.drewN m).cell? ⟨v,j,none⟩=some (pB x):=by rw[oN,c1,aG,i];rfl
   have B:(w.drewN m).cell? ⟨z,j,none⟩=some (pB y):=by rw[oN,c2,aG,l];rfl
   have o:=aa (t.out j x y (w.drewN m) rfl i l);clear c1 c2 i l;go_wp2_with fail;refine o.mono ?_;rintro e u ⟨rfl,k,rfl⟩;clear o A B;go_wp2_with fail;exact⟨⟨j+1,by simp,hlt,m+k,rfl⟩,f⟩
  ·have d:decide ((j:Int)<(b:Int))=false:=by simp;omega
   go_wp2_with fail;go_ret;exact⟨rfl,m,rfl⟩
theorem f9 (w:World) (a b:Nat) (k0 n:Int) (nm t:Tx) (l r ar:Value) (ln:Int) (l2 r2 ar2:Value) (ln2:Int) (ha:w.heap[a]?=some (exC k0 n nm t l r ar ln)) (hb:w.heap[b]?=some (exC k0 n nm t l2 r2 ar2 ln2))
 (HA:∀u:World,u.heap=w.heap->Calls prog 221 #[ar,ar2,.func (.func 178) #[] #[]] u (Tru u)) (HL:∀u:World,u.heap=w.heap->Calls prog 178 #[l,l2] u (Tru u)) (HR:∀u:World,u.heap=w.heap->Calls prog 178 #[r,r2] u (Tru u)):Calls prog 178 #[pB a,pB b] w (Tru w):=by
 refine E5 w a b ?_;obtain⟨c,d,e,f,g,h,i⟩:=cO ha;obtain⟨j,k,m,o,p,q,s⟩:=cO hb;have HA:=aa HA;have HL:=aa HL;have HR:=aa HR;clear ha hb
 go_enter func220,ntmps220
 go_wp2_with fail
 go_quiet (fail)
 go_wp2_with fail
 go_quiet (first|exact Tru.q (HA.out _ rfl)|exact Tru.q (HL.out _ rfl)|exact Tru.q (HR.out _ rfl))
 go_wp2_with fail;go_ret;exact⟨rfl,_,by rw[World.drewN_drewN]⟩
theorem da {A:Nat->Prop} {u:World} (h:u.heap=w.heap):aX A w u:=λk o _ ho=>by rw[h];exact ho
theorem pK (w:World) (A:Nat->Prop) (e:TypeId):li w A e (.slice none 0 0) ([]:List Nat).length (([]:List Nat).map pB):=⟨bq _ _ _ _,λg hg=>by cases hg⟩
theorem FT (w:World):Calls prog 221 #[.slice none 0 0,.slice none 0 0,.func (.func 178) #[] #[]] w (Tru w):=
 MI w _ _ [] [] (λ_=>True) (λ_=>True) (pK _ _ _) (pK _ _ _) rfl (by simp) λj x y u _ hx=>by simp at hx
theorem FS (w:World):Calls prog 121 #[.slice none 0 0,.slice none 0 0,.func (.func 122) #[] #[]] w (Tru w):=
 MH w _ _ [] [] (λ_=>True) (λ_=>True) (pK _ _ _) (pK _ _ _) rfl (by simp) λj x y u _ hx=>by simp at hx
def SmE (x:Ex):Prop:=∀(w:World) (A1 A2:Nat->Prop) (b1 b2:Nat),bK w A1 b1 x->bK w A2 b2 x->ExP x->Calls prog 178 #[pB b1,pB b2] w (Tru w)
theorem SmE.at {x:Ex} (h:SmE x) {b1 b2:Nat} (h1:bK w A1 b1 x) (h2:bK w A2 b2 x) (hp:ExP x):∀u:World,u.heap=w.heap->Calls prog 178 #[pB b1,pB b2] u (Tru u):=
 λu hu=>h u A1 A2 b1 b2 (h1.onA (da hu)) (h2.onA (da hu)) hp
theorem pL:∀(w u:World),u.heap=w.heap->Calls prog 178 #[.pointer none,.pointer none] u (Tru u):=λ_ u _=>BX u
theorem GA:∀(w u:World),u.heap=w.heap->Calls prog 221 #[.slice none 0 0,.slice none 0 0,.func (.func 178) #[] #[]] u (Tru u):=λ_ u _=>FT u
theorem rn:∀(w u:World),u.heap=w.heap->Calls prog 121 #[.slice none 0 0,.slice none 0 0,.func (.func 122) #[] #[]] u (Tru u):=λ_ u _=>FS u
mutual
theorem ff:∀x:Ex,SmE x
 | .num n=>λw A1 A2 b1 b2 h1 h2 hp=>by
  rw[bK]at h1 h2;obtain⟨_,f,b⟩:=h1;obtain⟨_,g,c⟩:=h2;exact f9 w b1 b2 _ _ _ _ _ _ _ _ _ _ _ _ b c (GA w) (pL w) (pL w)
 | .name s=>λw A1 A2 b1 b2 h1 h2 hp=>by
  rw[bK]at h1 h2;obtain⟨_,f,b⟩:=h1;obtain⟨_,g,c⟩:=h2;exact f9 w b1 b2 _ _ _ _ _ _ _ _ _ _ _ _ b c (GA w) (pL w) (pL w)
 | .un t r=>λw A1 A2 b1 b2 h1 h2 hp=>by
  rw[bK]at h1 h2;unfold ExP at hp;obtain⟨_,f,v,b,d⟩:=h1;obtain⟨_,g,A,c,e⟩:=h2;exact f9 w b1 b2 _ _ _ _ _ _ _ _ _ _ _ _ b c (GA w) (pL w) ((ff r).at d e hp.2)
 | .bin t l r=>λw A1 A2 b1 b2 h1 h2 hp=>by
  rw[bK]at h1 h2;unfold ExP at hp;obtain⟨_,f,B,v,b,h,d⟩:=h1;obtain⟨_,g,C,A,c,i,e⟩:=h2;exact f9 w b1 b2 _ _ _ _ _ _ _ _ _ _ _ _ b c (GA w) ((ff l).at h i hp.2.1) ((ff r).at d e hp.2.2)
 | .call s args=>λw A1 A2 b1 b2 h1 h2 hp=>by
  rw[bK]at h1 h2;unfold ExP at hp;obtain⟨_,f,K,p,b,I,d⟩:=h1;obtain⟨_,g,L,q,c,J,e⟩:=h2;have E:=lS d;have F:=lS e;have D:=yE args;refine f9 w b1 b2 _ _ _ _ _ _ _ _ _ _ _ _ b c (λu hu=>?_) (pL w) (pL w);refine MI u K L p q A1 A2 (I.on (da hu)) (J.on (da hu)) (by omega) (by have:=hp.2.1;omega) λj x y z hz hx hy=>?_;obtain⟨M,_⟩:=aE.1 hx;obtain⟨a,k⟩:∃a,args[j]?=some a:=⟨_,aw (by omega)⟩;obtain⟨c1,m,G⟩:=E.2 j a k;obtain⟨c2,o,H⟩:=F.2 j a k;rw[hx]at m;rw[hy]at o;injection m with m;injection o with o;subst m o;exact(D a (aJ k)).at G H (tA hp.2.2 (aJ k)) z (hz.trans hu)
 | .cell l r=>λw A1 A2 b1 b2 h1 h2 hp=>by
  rw[bK]at h1 h2;unfold ExP at hp;obtain⟨_,f,B,v,b,h,d⟩:=h1;obtain⟨_,g,C,A,c,i,e⟩:=h2;exact f9 w b1 b2 _ _ _ _ _ _ _ _ _ _ _ _ b c (GA w) ((ff l).at h i hp.1) ((ff r).at d e hp.2)
 | .link l r=>λw A1 A2 b1 b2 h1 h2 hp=>by
  rw[bK]at h1 h2;unfold ExP at hp;obtain⟨_,f,B,v,b,h,d⟩:=h1;obtain⟨_,g,C,A,c,i,e⟩:=h2;exact f9 w b1 b2 _ _ _ _ _ _ _ _ _ _ _ _ b c (GA w) ((ff l).at h i hp.1) ((ff r).at d e hp.2)
 | .new l=>λw A1 A2 b1 b2 h1 h2 hp=>by
  rw[bK]at h1 h2;unfold ExP at hp;obtain⟨_,f,B,b,h⟩:=h1;obtain⟨_,g,C,c,i⟩:=h2;exact f9 w b1 b2 _ _ _ _ _ _ _ _ _ _ _ _ b c (GA w) ((ff l).at h i hp) (pL w)
 | .inp=>λw A1 A2 b1 b2 h1 h2 hp=>by
  rw[bK]at h1 h2;obtain⟨_,f,b⟩:=h1;obtain⟨_,g,c⟩:=h2;exact f9 w b1 b2 _ _ _ _ _ _ _ _ _ _ _ _ b c (GA w) (pL w) (pL w)
theorem yE:∀l:List Ex,∀x∈l,SmE x
 | [],x,h=>by cases h
 | y::l,x,h=>by
  rcases aR.1 h with e|h
  ·rw[e];exact ff y
  ·exact yE l x h
end
theorem ey (w:World) (a b:Nat) (k0:Int) (nm:Tx) (p:Bool) (l r x y:Value) (ln:Int) (l2 r2 x2 y2:Value) (ln2:Int) (ha:w.heap[a]?=some (stC k0 nm p l r x y ln)) (hb:w.heap[b]?=some (stC k0 nm p l2 r2 x2 y2 ln2))
 (HL:∀u:World,u.heap=w.heap->Calls prog 178 #[l,l2] u (Tru u)) (HR:∀u:World,u.heap=w.heap->Calls prog 178 #[r,r2] u (Tru u)) (HX:∀u:World,u.heap=w.heap->Calls prog 121 #[x,x2,.func (.func 122) #[] #[]] u (Tru u)) (HY:∀u:World,u.heap=w.heap->Calls prog 121 #[y,y2,.func (.func 122) #[] #[]] u (Tru u)):Calls prog 122 #[pB a,pB b] w (Tru w):=by
 refine EY w a b ?_;obtain⟨c,d,e,f,g,h,i⟩:=bZ ha;obtain⟨j,k,m,n,o,q,s⟩:=bZ hb;have HL:=aa HL;have HR:=aa HR;have HX:=aa HX;have HY:=aa HY;clear ha hb
 go_enter func177,ntmps177
 go_wp2_with fail
 go_quiet (fail)
 go_wp2_with fail
 go_quiet (first|(go_at_call_of 178 l;exact Tru.q (HL.out _ rfl))|(go_at_call_of 178 r;exact Tru.q (HR.out _ rfl))|(go_at_call_of 121 x;exact Tru.q (HX.out _ rfl))|(go_at_call_of 121 y;exact Tru.q (HY.out _ rfl)))
 go_wp2_with fail;go_ret;exact⟨rfl,_,by rw[World.drewN_drewN]⟩
def SmS (x:Sm):Prop:=∀(w:World) (A1 A2:Nat->Prop) (b1 b2:Nat),ci w A1 b1 x->ci w A2 b2 x->SmP x->cP x<=1000000->Calls prog 122 #[pB b1,pB b2] w (Tru w)
theorem GF:∀l:List Sm,l.length<=bL l
 | []=>by simp
 | x::l=>by
  have:=GF l;have h:1<=cP x:=by cases x<;>(rw[cP];omega)
  rw[bL,aC];omega
theorem pI {l:List Sm} (IH:∀x∈l,SmS x) {v1 v2:Value} {bs1 bs2:List Nat} (o1:li w A1 195 v1 bs1.length (bs1.map pB)) (q1:cu w A1 bs1 l) (o2:li w A2 195 v2 bs2.length (bs2.map pB)) (q2:cu w A2 bs2 l) (hp:jW l) (hs:bL l<=1000000):
  ∀u:World,u.heap=w.heap->Calls prog 121 #[v1,v2,.func (.func 122) #[] #[]] u (Tru u):=λu hu=>by
 have e:=fT q1;have f:=fT q2;have m:=GF l;refine MH u v1 v2 bs1 bs2 A1 A2 (o1.on (da hu)) (o2.on (da hu)) (by omega) (by omega) λj x y z hz hx hy=>?_;obtain⟨k,_⟩:=aE.1 hx;obtain⟨a,b⟩:∃a,l[j]?=some a:=⟨_,aw (by omega)⟩;obtain⟨c1,c,h⟩:=e.2 j a b;obtain⟨c2,d,i⟩:=f.2 j a b;rw[hx]at c;rw[hy]at d;injection c with c;injection d with d;subst c d;have g:=sE hp (aJ b);exact IH a (aJ b) z A1 A2 x y (h.onA (da (hz.trans hu))) (i.onA (da (hz.trans hu))) g.1 (by omega)
mutual
theorem If:∀x:Sm,SmS x
 | .var n p none=>λw A1 A2 b1 b2 h1 h2 hp hs=>by
  rw[ci]at h1 h2;unfold SmP at hp;rw[cP]at hs;obtain⟨_,e,a⟩:=h1;obtain⟨_,f,b⟩:=h2;exact ey w b1 b2 _ _ _ _ _ _ _ _ _ _ _ _ _ a b (pL w) (pL w) (rn w) (rn w)
 | .var n p (some r)=>λw A1 A2 b1 b2 h1 h2 hp hs=>by
  rw[ci]at h1 h2;unfold SmP at hp;rw[cP]at hs;obtain⟨_,e,g,a,c⟩:=h1;obtain⟨_,f,h,b,d⟩:=h2;exact ey w b1 b2 _ _ _ _ _ _ _ _ _ _ _ _ _ a b (pL w) ((ff r).at c d hp.2) (rn w) (rn w)
 | .set n r=>λw A1 A2 b1 b2 h1 h2 hp hs=>by
  rw[ci]at h1 h2;unfold SmP at hp;rw[cP]at hs;obtain⟨_,e,g,a,c⟩:=h1;obtain⟨_,f,h,b,d⟩:=h2;exact ey w b1 b2 _ _ _ _ _ _ _ _ _ _ _ _ _ a b (pL w) ((ff r).at c d hp.2) (rn w) (rn w)
 | .cell l r=>λw A1 A2 b1 b2 h1 h2 hp hs=>by
  rw[ci]at h1 h2;unfold SmP at hp;rw[cP]at hs;obtain⟨_,e,H,g,a,D,c⟩:=h1;obtain⟨_,f,I,h,b,E,d⟩:=h2;exact ey w b1 b2 _ _ _ _ _ _ _ _ _ _ _ _ _ a b ((ff l).at D E hp.2.1) ((ff r).at c d hp.2.2) (rn w) (rn w)
 | .iff r x y=>λw A1 A2 b1 b2 h1 h2 hp hs=>by
  rw[ci]at h1 h2;unfold SmP at hp;rw[cP]at hs;obtain⟨_,e,g,z,F,o,B,a,c,k,i,u,s⟩:=h1;obtain⟨_,f,h,A,G,q,C,b,d,m,j,v,t⟩:=h2;exact ey w b1 b2 _ _ _ _ _ _ _ _ _ _ _ _ _ a b (pL w) ((ff r).at c d hp.1) (pI (nC x) k i m j hp.2.1 (by omega)) (pI (nC y) u s v t hp.2.2 (by omega))
 | .whl r x=>λw A1 A2 b1 b2 h1 h2 hp hs=>by
  rw[ci]at h1 h2;unfold SmP at hp;rw[cP]at hs;obtain⟨_,e,g,z,o,a,c,k,i⟩:=h1;obtain⟨_,f,h,A,q,b,d,m,j⟩:=h2;exact ey w b1 b2 _ _ _ _ _ _ _ _ _ _ _ _ _ a b (pL w) ((ff r).at c d hp.1) (pI (nC x) k i m j hp.2 (by omega)) (rn w)
 | .out r=>λw A1 A2 b1 b2 h1 h2 hp hs=>by
  rw[ci]at h1 h2;unfold SmP at hp;rw[cP]at hs;obtain⟨_,e,g,a,c⟩:=h1;obtain⟨_,f,h,b,d⟩:=h2;exact ey w b1 b2 _ _ _ _ _ _ _ _ _ _ _ _ _ a b (pL w) ((ff r).at c d hp) (rn w) (rn w)
 | .free r=>λw A1 A2 b1 b2 h1 h2 hp hs=>by
  rw[ci]at h1 h2;unfold SmP at hp;rw[cP]at hs;obtain⟨_,e,g,a,c⟩:=h1;obtain⟨_,f,h,b,d⟩:=h2;exact ey w b1 b2 _ _ _ _ _ _ _ _ _ _ _ _ _ a b (pL w) ((ff r).at c d hp) (rn w) (rn w)
 | .drain=>λw A1 A2 b1 b2 h1 h2 hp hs=>by
  rw[ci]at h1 h2;unfold SmP at hp;rw[cP]at hs;obtain⟨_,e,a⟩:=h1;obtain⟨_,f,b⟩:=h2;exact ey w b1 b2 _ _ _ _ _ _ _ _ _ _ _ _ _ a b (pL w) (pL w) (rn w) (rn w)
 | .ret none=>λw A1 A2 b1 b2 h1 h2 hp hs=>by
  rw[ci]at h1 h2;unfold SmP at hp;rw[cP]at hs;obtain⟨_,e,a⟩:=h1;obtain⟨_,f,b⟩:=h2;exact ey w b1 b2 _ _ _ _ _ _ _ _ _ _ _ _ _ a b (pL w) (pL w) (rn w) (rn w)
 | .ret (some r)=>λw A1 A2 b1 b2 h1 h2 hp hs=>by
  rw[ci]at h1 h2;unfold SmP at hp;rw[cP]at hs;obtain⟨_,e,g,a,c⟩:=h1;obtain⟨_,f,h,b,d⟩:=h2;exact ey w b1 b2 _ _ _ _ _ _ _ _ _ _ _ _ _ a b (pL w) ((ff r).at c d hp) (rn w) (rn w)
 | .call r=>λw A1 A2 b1 b2 h1 h2 hp hs=>by
  rw[ci]at h1 h2;unfold SmP at hp;rw[cP]at hs;obtain⟨_,e,g,a,c⟩:=h1;obtain⟨_,f,h,b,d⟩:=h2;exact ey w b1 b2 _ _ _ _ _ _ _ _ _ _ _ _ _ a b (pL w) ((ff r).at c d hp.2) (rn w) (rn w)
theorem nC:∀l:List Sm,∀x∈l,SmS x
 | [],x,h=>by cases h
 | y::l,x,h=>by
  rcases aR.1 h with e|h
  ·rw[e];exact If y
  ·exact nC l x h
end
theorem IT (s:Tx) (p:Bool) (w:World):(binOp .neq 140 (.agg #[.string ⟨s.toArray⟩,.bool p]) (.agg #[.string ⟨s.toArray⟩,.bool p])).run prog w=.ok (.bool false) w:=by
 have h:∀d:Nat,(Op.equalIn (d+1+1) 140 (.agg #[.string ⟨s.toArray⟩,.bool p]) (.agg #[.string ⟨s.toArray⟩,.bool p])).run prog w=.ok true w:=λd=>by
  simp[Op.equalIn,run_underlying underlying140,go_sem];show(s.toArray==s.toArray)=true;exact beq_self_eq_true _
 simp only[binOp];simp[Op.equal,Op.maxDepth,h 9998]
theorem K5 (w:World) (v1 v2:Value) (ps:List Par) (A1 A2:Nat->Prop) (h1:Ec w A1 v1 ps) (h2:Ec w A2 v2 ps) (hn:ps.length<=1000000):
  Calls prog 120 #[v1,v2] w (Tru w):=by
 obtain⟨s,k,t,rfl⟩:=cc h1.1;obtain⟨u,l,v,rfl⟩:=cc h2.1;have f:k=ps.length:=eR h1.1 rfl;have g:l=ps.length:=eR h2.1 rfl;subst f g;have d:=aa h1;have e:=aa h2;clear h1 h2
 go_enter func120,ntmps120
 go_wp2_with fail
 go_loopw [5,13] (λ_ s13 wr=>∃j:Nat,s13=.int .i64 j/\j<=ps.length/\∃m,wr=w.drewN m) (λ_ s13 _=>match s13 with | .int _ j=>ps.length-j.toNat|_=>0)
 case atStart=>exact⟨0,rfl,aV _,0,rfl⟩
 case round =>
  obtain⟨j,rfl,r,m,rfl⟩:=hrel
  by_cases hlt:j<ps.length
  ·have a:decide ((j:Int)<(ps.length:Int))=true:=by simp;omega
   have b:ps.length-((j:Int)+1).toNat<ps.length-(j:Int).toNat:=gd hlt;obtain⟨x,c⟩:∃x,ps[j]?=some x:=⟨_,aw hlt⟩;obtain⟨p,rfl,c1,n⟩:=wQ d.out.1 rfl c;obtain⟨q,rfl,c2,o⟩:=wQ e.out.1 rfl c;have i:=IT x.name x.ptr;have h:(j:Int)<(ps.length:Int):=by omega
   clear c;go_wp2_with fail
   go_quiet (fail)
   go_wp2_with fail;exact⟨⟨j+1,by simp,hlt,_,rfl⟩,b⟩
  ·have a:decide ((j:Int)<(ps.length:Int))=false:=by simp;omega
   go_wp2_with fail;go_ret;exact⟨rfl,m,rfl⟩
theorem BW (w:World) (A1 A2:Nat->Prop) (a b:Nat) (f:Fun) (h1:ji w A1 a f) (h2:ji w A2 b f) (hp:FunP f) (hpl:f.params.length<=1000000) (hs:bL f.body<=1000000):Calls prog 70 #[pB a,pB b] w (Tru w):=by
 refine E0 w a b ?_;obtain⟨_,s,c,d,q,g,k,i,m⟩:=h1;obtain⟨_,t,e,v,r,h,l,j,n⟩:=h2;obtain⟨x,y,z,A⟩:=rX g;obtain⟨B,C,D,E⟩:=rX h;have p:=aa (λ(u:World) (hu:u.heap=w.heap)=>K5 u c e f.params A1 A2 (k.on (da hu)) (l.on (da hu)) hpl);have o:=aa (pI (nC f.body) i m j n hp.body hs);clear g h k l i j m n hp hpl hs
 go_enter func119,ntmps119
 go_wp2_with fail
 go_quiet (first|(go_at_call_of 120 c;exact Calls.quiet_of (p.out _ rfl))|(go_at_call_of 121 d;exact Calls.quiet_of (o.out _ rfl)))
 go_wp2_with fail;go_ret;exact⟨rfl,_,rfl⟩
theorem l9 {w:World} {A:Nat->Prop}:∀{bs:List Nat} {xs:List Fun},dV w A bs xs->bs.length=xs.length/\∀(j:Nat) (x:Fun),xs[j]?=some x->∃b,bs[j]?=some b/\ji w A b x
 | [],[],_=>⟨rfl,λj x hj=>by simp at hj⟩
 | b::bs,x::xs,h=>by
  obtain⟨a,c⟩:=l9 h.2;refine⟨by simp[a],λj y hj=>?_⟩;cases j with
  | zero=>simp at hj;subst hj;exact⟨b,rfl,h.1⟩
  | succ j=>exact c j y (by simpa using hj)
 | [],_::_,h=>h.elim
 | _::_,[],h=>h.elim
theorem EV (w:World) (A1 A2:Nat->Prop) (a b:Nat) (va vb:Value) (ba bb:List Nat) (fs:List Fun) (na:w.heap[a]?=some (.cells #[va] 57 (0,0))) (nb:w.heap[b]?=some (.cells #[vb] 57 (0,0))) (oa:li w A1 61 va ba.length (ba.map pB)) (ob:li w A2 61 vb bb.length (bb.map pB)) (fa:dV w A1 ba fs) (fb:dV w A2 bb fs)
 (hp:∀f∈fs,FunP f/\f.params.length<=1000000/\bL f.body<=1000000) (hl:fs.length<=1000000):Calls prog 21 #[pB a,pB b] w (Tru w):=by
 refine EZ w a b ?_;have p:w.cell? ⟨a,0,none⟩=some va:=(ae na 0).trans rfl;have q:w.cell? ⟨b,0,none⟩=some vb:=(ae nb 0).trans rfl;have g:=l9 fa;have h:=l9 fb;have i:=aa (λ(u:World) (hu:u.heap=w.heap)=>MW u va vb ba bb A1 A2 (oa.on (da hu)) (ob.on (da hu)) (by omega) (by omega) λj x y z hz hx hy=>by
  obtain⟨r,_⟩:=aE.1 hx;obtain⟨f,e⟩:∃f,fs[j]?=some f:=⟨_,aw (by omega)⟩;obtain⟨c1,c,k⟩:=g.2 j f e;obtain⟨c2,d,l⟩:=h.2 j f e;rw[hx]at c;rw[hy]at d;injection c with c;injection d with d;subst c d;obtain⟨m,n,o⟩:=hp f (aJ e);exact BW z A1 A2 x y f (k.onA (da (hz.trans hu))) (l.onA (da (hz.trans hu))) m n o)
 clear na nb oa ob fa fb hp hl g h
 go_enter func68,ntmps68
 go_wp2_with fail
 go_quiet (exact Calls.quiet_of (i.out _ rfl))
 go_wp2_with fail;go_ret;exact⟨rfl,_,rfl⟩
end Go.Proofs.YtbeaaimcpkogcaaGreatDoor
