/- Lemmas on the way to the claim. -/
import Derived.Test.YtbeaaimcpkogcaaGreatDoorM11
import Derived.Test.YtbeaaimcpkogcaaGreatDoorM28
set_option linter.unusedSimpArgs false
set_option linter.unusedVariables false
set_option maxHeartbeats 2000000
set_option maxRecDepth 100000
namespace Go.Proofs.YtbeaaimcpkogcaaGreatDoor
open Go.Proofs.Tryz Go.RowKit
variable {u w:World} {W b d:Nat} {t:Tx} {wb:Option Nat} {x:Sm} {v:Value} {l:List Sm} {A:Nat->Prop}
theorem yH:∀d:Nat,Lib.repeatL [9] d=tabs d
 | 0=>rfl
 | d+1=>by rw[Lib.repeatL,yH d];rfl
theorem WR.deep (h:WR w W t d wb) (d':Nat):WR (w.setCell ⟨W,2,none⟩ (.int .i64 d')) W t d' wb:=by
 obtain⟨p,v,hn,e,c,a,b⟩:=h.ex;exact⟨⟨p,v,aA (j:=2) hn _,e,bg c (show W<W+1 from cI W) _,a,b⟩,h.tab.on ((ai _ _).setCell (p:=⟨W,2,none⟩) (ag W) _)⟩
theorem cE.deep (h:cE W t d wb w u) (d':Nat):cE W t d' wb w (u.setCell ⟨W,2,none⟩ (.int .i64 d')):=by
 obtain⟨c,a,b,e⟩:=h;exact⟨c.setCell (p:=⟨W,2,none⟩) (λ_=>.inl rfl) _,a,b.deep d',e⟩
theorem cE.dcell (h:cE W t d wb w u):u.cell? ⟨W,2,none⟩=some (.int .i64 d)/\u.frozen? ⟨W,2,none⟩=false:=by
 obtain⟨_,b,a,_⟩:=h;obtain⟨p,v,hn,_⟩:=a.ex;exact⟨(ae hn 2).trans rfl,aD u W 2 _ _ hn⟩
theorem Hk (w:World) (W:Nat) (t:Tx) (d:Nat) (wb:Option Nat) (h:WR w W t d wb) (hd:d<=1000000) (hl:(t++tabs d).length<=100000000000):
  Calls prog 116 #[pB W] w λe w'=>e=.returned (.tuple #[])/\cE W (t++tabs d) d wb w w':=by
 have a:=(cE.start h).dcell.1;have f:=aa (Tryz.strings_Repeat ⟨#[9]⟩ d w (by omega) (by show 1*d<=_;omega));have l:=aa (cE.start h);have k:=aa hl;clear h hl
 go_enter func116,ntmps116
 go_wp2_with fail;refine f.mono ?_;rintro e u ⟨rfl,i⟩;have b:=aa ((l.below i).put1 (c:=1) (tabs d) k.out);rw[show(Lib.repeatL (⟨#[9]⟩:ByteArray).data.toList d)=tabs d from yH d];clear i f a;go_wp2_with fail;refine b.mono ?_;rintro e m ⟨rfl,g⟩;have j:=aa g;clear g b;go_wp2_with fail;go_end0;exact⟨rfl,j.out⟩
theorem cE.tabs (h:cE W t d wb w u) (hd:d<=1000000) (hl:(t++Proofs.YtbeaaimcpkogcaaGreatDoor.tabs d).length<=100000000000):Calls prog 116 #[pB W] u λe v=>e=.returned (.tuple #[])/\cE W (t++Proofs.YtbeaaimcpkogcaaGreatDoor.tabs d) d wb w v:=
 h.call (R:=λe=>e=.returned (.tuple #[])) λwb' h'=>Hk u W t d wb' h' hd hl
theorem Ew (w:World) (W:Nat) (t:Tx) (d:Nat) (wb:Option Nat) (a:Tx) (x:Ex) (b:Nat) (h:WR w W t d wb) (ho:bK w (LtP W) b x) (hp:ExP x) (hl:(t++(a++(cV x++[59]))).length<=100000000000):
  Calls prog 173 #[pB W,.string ⟨a.toArray⟩,pB b] w λe w'=>e=.returned (.tuple #[])/\cE W (t++(a++(cV x++[59]))) d wb w w':=by
 have m:exT x 1=cV x:=gi (gU hp);have f:t++a++exT x 1++[59]=t++(a++(cV x++[59])):=by rw[m];simp
 rw[<- f]at hl ⊢;have k:=aa hl;have q:=aa h;have r:=aa ho;have g:=aa ((cE.start h).put1 (c:=1) a (by have:=k.out;simp only[ac]at this ⊢;omega));clear h ho hl f m
 go_enter func173,ntmps173
 go_wp2_with fail;refine g.mono ?_;rintro e s ⟨rfl,l⟩;have i:=aa (l.ex (gw x) (r.onA (l.tree q.out)) hp (c:=1) (by omega) (by have:=k.out;simp only[ac]at this ⊢;omega));clear l g;go_wp2_with fail;refine i.mono ?_;rintro e u ⟨rfl,n⟩;have j:=aa (n.put1 (c:=1) [59] k.out);clear n i;go_wp2_with fail;refine j.mono ?_;rintro e v ⟨rfl,o⟩;have p:=aa o;clear o j;go_wp2_with fail;go_end0;exact⟨rfl,p.out⟩
theorem cE.ended (h:cE W t d wb w u) (a:Tx) {x:Ex} (ho:bK u (LtP W) b x) (hp:ExP x) (hl:(t++(a++(cV x++[59]))).length<=100000000000):
  Calls prog 173 #[pB W,.string ⟨a.toArray⟩,pB b] u λe v=>e=.returned (.tuple #[])/\cE W (t++(a++(cV x++[59]))) d wb w v:=
 h.call (R:=λe=>e=.returned (.tuple #[])) λwb' h'=>Ew u W t d wb' a x b h' ho hp hl
def PSt (x:Sm):Prop:=∀(w:World) (W:Nat) (t:Tx) (d:Nat) (wb:Option Nat) (b:Nat),WR w W t d wb->ci w (LtP W) b x->SmP x->d+cP x<=1000000->(t++stT d x).length<=100000000000 ->
 Calls prog 117 #[pB W,pB b] w λe w'=>e=.returned (.tuple #[])/\cE W (t++stT d x) d wb w w'
def PBr (x:Sm):Prop:=∀(w:World) (W:Nat) (t:Tx) (d:Nat) (wb:Option Nat) (b:Nat),WR w W t d wb->ci w (LtP W) b x->SmP x->d+cP x<=1000000->(t++stT d x).length<=100000000000 ->
 Calls prog 175 #[pB W,pB b] w λe w'=>e=.returned (.tuple #[])/\cE W (t++stT d x) d wb w w'
def Eo (l:List Sm):Prop:=∀(w:World) (W:Nat) (t:Tx) (d:Nat) (wb:Option Nat) (v:Value),WR w W t d wb->jU w (LtP W) v l->jW l->d+1+bL l<=1000000->(t++iW d l).length<=100000000000 ->
 Calls prog 66 #[pB W,v] w λe w'=>e=.returned (.tuple #[])/\cE W (t++iW d l) d wb w w'
theorem cE.st (h:cE W t d wb w u) (hx:PSt x) (ho:ci u (LtP W) b x) (hp:SmP x) (hd:d+cP x<=1000000) (hl:(t++stT d x).length<=100000000000):
  Calls prog 117 #[pB W,pB b] u λe v=>e=.returned (.tuple #[])/\cE W (t++stT d x) d wb w v:=
 h.call (R:=λe=>e=.returned (.tuple #[])) λwb' h'=>hx u W t d wb' b h' ho hp hd hl
theorem cE.br (h:cE W t d wb w u) (hx:PBr x) (ho:ci u (LtP W) b x) (hp:SmP x) (hd:d+cP x<=1000000) (hl:(t++stT d x).length<=100000000000):
  Calls prog 175 #[pB W,pB b] u λe v=>e=.returned (.tuple #[])/\cE W (t++stT d x) d wb w v:=
 h.call (R:=λe=>e=.returned (.tuple #[])) λwb' h'=>hx u W t d wb' b h' ho hp hd hl
theorem cE.blk (h:cE W t d wb w u) (hx:Eo l) (ho:jU u (LtP W) v l) (hp:jW l) (hd:d+1+bL l<=1000000) (hl:(t++iW d l).length<=100000000000):
  Calls prog 66 #[pB W,v] u λe v=>e=.returned (.tuple #[])/\cE W (t++iW d l) d wb w v:=
 h.call (R:=λe=>e=.returned (.tuple #[])) λwb' h'=>hx u W t d wb' v h' ho hp hd hl
theorem jU.onP {w':World} (h:jU w A v l) (hs:aX A w w'):jU w' A v l:=by
 obtain⟨a,b,c⟩:=h;exact⟨a,b.on hs,c.onA hs⟩
theorem fT {w:World} {A:Nat->Prop}:∀{bs:List Nat} {xs:List Sm},cu w A bs xs->bs.length=xs.length/\∀(j:Nat) (x:Sm),xs[j]?=some x->∃b,bs[j]?=some b/\ci w A b x
 | [],[],_=>⟨rfl,λj x hj=>by simp at hj⟩
 | b::bs,x::xs,h=>by
  rw[cu]at h;obtain⟨a,c⟩:=fT h.2;refine⟨by simp[a],λj y hj=>?_⟩;cases j with
  | zero=>simp at hj;subst hj;exact⟨b,rfl,h.1⟩
  | succ j=>exact c j y (by simpa using hj)
 | [],_::_,h=>by rw[cu]at h<;>first|exact h.elim|(intros;simp_all)
 | _::_,[],h=>by rw[cu]at h<;>first|exact h.elim|(intros;simp_all)
theorem sE:∀{xs:List Sm} {x:Sm},jW xs->x∈xs->SmP x/\cP x<=bL xs
 | [],_,_,h=>by cases h
 | y::ys,x,hp,h=>by
  unfold jW at hp;rw[bL];rcases aR.1 h with rfl|h
  ·exact⟨hp.1,by omega⟩
  ·have:=sE hp.2 h;exact⟨this.1,by omega⟩
theorem qM:∀(l:List Sm) (d:Nat) (x:Sm),db d (l++[x])=db d l++(tabs d++(stT d x++[10]))
 | [],d,x=>by simp[db]
 | y::l,d,x=>by
  rw[bB,db,qM l d x,db];simp[aF]
theorem xh {j:Nat} (h:l[j]?=some x) (d:Nat):db d (l.take (j+1))=db d (l.take j)++(tabs d++(stT d x++[10])):=by
 rw[bT,h,cy,qM]
theorem uT (d:Nat):∀(l:List Sm) (j:Nat),(db d (l.take j)).length<=(db d l).length
 | [],j=>by simp
 | x::l,0=>by rw[bO,db];simp
 | x::l,j+1=>by
  rw[gW,db,db];have:=uT d l j;simp only[ac,aC];omega
theorem Cq (hx:∀x∈l,PSt x):Eo l:=by
 intro w W t d Q v h ho hp hd J;obtain⟨b,R,ha⟩:=ho;have k:t++[32,123,10]++db (d+1) l++tabs d++[125]=t++iW d l:=by unfold iW;simp[aF]
 rw[<- k]at J ⊢;obtain⟨i,N⟩:∃i,t++[32,123,10]=i:=⟨_,rfl⟩;have n:=aa ((cE.start h).put1 (c:=1) [32,123,10] (by simp only[ac]at J ⊢;omega));rw[N]at J n ⊢;obtain⟨q,I⟩:=fT ha;obtain⟨va,vn,vc,rfl⟩:=cc R.1;have a1:vn=b.length:=eR R.1 rfl;subst a1;have a3:b.length<=1000000:=by
  rw[q];have a2:∀l:List Sm,l.length<=bL l:=λl=>by
   induction l with
   | nil=>simp
   | cons x l ih=>rw[bL,aC];have:1<=cP x:=(by cases x<;>(rw[cP];omega));omega
  have:=a2 l;omega
 have HH:=aa h;have T:=aa J;have HA:=aa ha;have HV:=aa R;have A:=aa q;have HP:=aa hp;have HX:=aa hx;clear h J ha R q hp hx I k N
 go_enter func66,ntmps66
 go_wp2_with fail;refine n.mono ?_;rintro e u1 ⟨rfl,E⟩;obtain⟨c2,Z⟩:=E.dcell;have o:=aa (show cE W (i++db (d+1) (l.take 0)) (d+1) Q w (u1.setCell ⟨W,2,none⟩ (.int .i64 ((d:Int)+1))) by
  rw[bO,db,bo];have:=E.deep (d+1);rw[show((d+1:Nat):Int)=(d:Int)+1 by omega]at this;exact this)
 clear E n;go_wp2_with fail;generalize u1.setCell ⟨W,2,none⟩ (.int .i64 ((d:Int)+1))=u2 at o ⊢;clear c2 Z
 go_loopw [5,18] (λ_ s18 wr=>∃j:Nat,s18=.int .i64 j/\j<=b.length/\Hid (cE W (i++db (d+1) (l.take j)) (d+1) Q w wr)) (λ_ s18 _=>match s18 with | .int _ j=>b.length-j.toNat|_=>0)
 case atStart=>exact⟨0,rfl,aV _,o⟩
 case round =>
  clear o
  rename World=>w5
  obtain⟨j,rfl,hj,L⟩:=hrel
  by_cases hlt:j<b.length
  ·obtain⟨x,hx⟩:∃x,l[j]?=some x:=⟨_,aw (by have:=A.out;omega)⟩
   have H:decide ((j:Int)<(b.length:Int))=true:=by simp;omega
   have K:b.length-((j:Int)+1).toNat<b.length-(j:Int).toNat:=gd hlt;have M:=L.out.tree HH.out;obtain⟨xb,P,O⟩:=(fT HA.out).2 j x hx;obtain⟨g,rfl,G⟩:=eV (HV.on M).1 hlt;have r:w5.cell? ⟨g,j,none⟩=some (pB xb):=by rw[G,aG,P];rfl
   have X:=aa O;have u:=sE HP.out (aJ hx);have s:=xh hx (d+1);have p:(i++db (d+1) (l.take j)++tabs (d+1)++stT (d+1) x++[10]).length<=100000000000:=by
    have h1:=uT (d+1) l (j+1);rw[s]at h1;have E:=T.out;simp only[ac]at h1 E ⊢;omega
   have V:=aa u.1;have a4:=u.2;obtain⟨S,f⟩:∃S,i++db (d+1) (l.take j)=S:=⟨_,rfl⟩;have U:=aa (show i++db (d+1) (l.take (j+1))=S++tabs (d+1)++stT (d+1) x++[10] by rw[s,<- f];simp[aF]);rw[f]at p;have m:=aa p;have HR:=aa (show cE W S (d+1) Q w w5 by rw[<- f];exact L.out);have Y:=aa (HX.out x (aJ hx));have B:=aa (HR.tabs (by omega) (by have:=m.out;simp only[ac]at this ⊢;omega));clear L hx M O G P u f p s;go_wp2_with fail;refine B.mono ?_;rintro e u6 ⟨rfl,z⟩;have a:=aa (z.st Y.out (X.onA (z.tree HH.out)) V.out (by omega) (by have:=m.out;simp only[ac]at this ⊢;omega));clear z B r;go_wp2_with fail;refine a.mono ?_;rintro e u7 ⟨rfl,F⟩;have C:=aa (F.put1 (c:=1) [10] m.out);clear F a;go_wp2_with fail;refine C.mono ?_;rintro e u8 ⟨rfl,h8⟩;have D:=aa (show cE W (i++db (d+1) (l.take (j+1))) (d+1) Q w u8 by rw[U.out];exact h8);clear h8 C;go_wp2_with fail;exact⟨⟨j+1,by simp,hlt,D⟩,K⟩
  ·have a0:j=b.length:=by omega
   have H:decide ((j:Int)<(b.length:Int))=false:=by simp;omega
   have y:cE W (i++db (d+1) l) (d+1) Q w w5:=by have:=L.out;rw[cH (by have:=A.out;omega)]at this;exact this
   obtain⟨c2,Z⟩:=y.dcell;rw[show((d+1:Nat):Int)=(d:Int)+1 by omega]at c2;have B:=aa ((y.deep d).tabs (by omega) (by have:=T.out;simp only[ac]at this ⊢;omega));clear L a0 y;go_wp2_with fail;refine B.mono ?_;rintro e u6 ⟨rfl,z⟩;have a:=aa (z.put1 (c:=1) [125] T.out);clear z B c2 Z;go_wp2_with fail;refine a.mono ?_;rintro e u7 ⟨rfl,F⟩;have HF:=aa F;clear F a;go_wp2_with fail;go_end0;exact⟨rfl,HF.out⟩
theorem bZ {k0:Int} {nm:Tx} {p:Bool} {l r x y:Value} {ln:Int} (h:w.heap[b]?=some (stC k0 nm p l r x y ln)):
  w.cell? ⟨b,0,none⟩=some (.int .i64 k0)/\w.cell? ⟨b,1,none⟩=some (.string ⟨nm.toArray⟩)/\w.cell? ⟨b,2,none⟩=some (.bool p)/\w.cell? ⟨b,3,none⟩=some l/\w.cell? ⟨b,4,none⟩=some r/\w.cell? ⟨b,5,none⟩=some x/\w.cell? ⟨b,6,none⟩=some y:=
 ⟨(ae h 0).trans rfl,(ae h 1).trans rfl,(ae h 2).trans rfl,(ae h 3).trans rfl,(ae h 4).trans rfl,(ae h 5).trans rfl,(ae h 6).trans rfl⟩
theorem Lg (a b:Tx):(⟨a.toArray⟩:ByteArray)++⟨b.toArray⟩=⟨(a++b).toArray⟩:=by apply ByteArray.ext;simp
theorem He (n:Tx):PSt (.var n false none):=by
 intro w W t d J b h A F hd l;rw[ci]at A;obtain⟨E,G,hn⟩:=A;rw[cP]at hd;have a:t++([118,97,114,32]++n)++[59]=t++stT d (.var n false none):=by
  simp[stT,aF]
 rw[<- a]at l ⊢;have C:=aa h;have D:=aa hn;have x:=aa l;have k:b<W:=E;obtain⟨o,p,q,r,s,u,v⟩:=bZ hn;have y:=cE.start h;have m:aX (LtP W) w w:=λ_ _ _ h=>h;have f:=aa (y.put2 (c:=2) [118,97,114,32] n (by have:=x.out;simp only[ac]at this ⊢;omega));clear y m h hn l a
 go_enter func117,ntmps117
 go_wp2_with fail;refine f.mono ?_;rintro e H ⟨rfl,j⟩;have i:=j.tree C.out;clear f o p q r s u v;obtain⟨o,p,q,r,s,u,v⟩:=bZ (i b _ k D.out);have g:=aa (j.put1 (c:=1) [59] (by have:=x.out;simp only[ac]at this ⊢;omega));clear j i;go_wp2_with fail;refine g.mono ?_;rintro e I ⟨rfl,z⟩;have B:=aa z;clear z g o p q r s u v;go_wp2_with fail
 first|go_end0|refine aN (cp rfl _ _ _) rfl ?_
 exact⟨rfl,B.out⟩
theorem Hd (n:Tx):PSt (.var n true none):=by
 intro w W t d N b h F I hd z;rw[ci]at F;obtain⟨H,J,hn⟩:=F;rw[cP]at hd;have a:t++([118,97,114,32]++n)++[32,112,116,114]++[59]=t++stT d (.var n true none):=by
  simp[stT,aF]
 rw[<- a]at z ⊢;have B:=aa h;have C:=aa hn;have v:=aa z;have j:b<W:=H;obtain⟨m,o,p,q,r,s,u⟩:=bZ hn;have D:=cE.start h;have A:aX (LtP W) w w:=λ_ _ _ h=>h;have f:=aa (D.put2 (c:=2) [118,97,114,32] n (by have:=v.out;simp only[ac]at this ⊢;omega));clear D A h hn z a
 go_enter func117,ntmps117
 go_wp2_with fail;refine f.mono ?_;rintro e K ⟨rfl,x⟩;have k:=x.tree B.out;clear f m o p q r s u;obtain⟨m,o,p,q,r,s,u⟩:=bZ (k b _ j C.out);have g:=aa (x.put1 (c:=1) [32,112,116,114] (by have:=v.out;simp only[ac]at this ⊢;omega));clear x k;go_wp2_with fail;refine g.mono ?_;rintro e L ⟨rfl,y⟩;have l:=y.tree B.out;clear g m o p q r s u;obtain⟨m,o,p,q,r,s,u⟩:=bZ (l b _ j C.out);have i:=aa (y.put1 (c:=1) [59] (by have:=v.out;simp only[ac]at this ⊢;omega));clear y l;go_wp2_with fail;refine i.mono ?_;rintro e M ⟨rfl,E⟩;have G:=aa E;clear E i m o p q r s u;go_wp2_with fail
 first|go_end0|refine aN (cp rfl _ _ _) rfl ?_
 exact⟨rfl,G.out⟩
theorem Hc (n:Tx) (r:Ex):PSt (.var n false (some r)):=by
 intro w W t d O b h E F hd o;rw[ci]at E;obtain⟨J,K,L,hn,j⟩:=E;unfold SmP at F;obtain⟨_,p⟩:=F;rw[cP]at hd;have a:t++([118,97,114,32]++n)++([32,61,32]++(cV r++[59]))=t++stT d (.var n false (some r)):=by
  simp[stT,aF]
 rw[<- a]at o ⊢;have H:=aa h;have I:=aa hn;have B:=aa o;have m:b<W:=J;obtain⟨s,u,v,x,y,z,A⟩:=bZ hn;have k:=aa j;have C:=cE.start h;have q:aX (LtP W) w w:=λ_ _ _ h=>h;have g:=aa (C.put2 (c:=2) [118,97,114,32] n (by have:=B.out;simp only[ac]at this ⊢;omega));clear C q h hn o a j
 go_enter func117,ntmps117
 go_wp2_with fail;refine g.mono ?_;rintro e M ⟨rfl,l⟩;have f:=l.tree H.out;clear g s u v x y z A;obtain⟨s,u,v,x,y,z,A⟩:=bZ (f b _ m I.out);have i:=aa (l.ended [32,61,32] (k.onA f) p (by have:=B.out;simp only[ac]at this ⊢;omega));clear l f;go_wp2_with fail;refine i.mono ?_;rintro e N ⟨rfl,D⟩;have G:=aa D;clear D i s u v x y z A;go_wp2_with fail
 first|go_end0|refine aN (cp rfl _ _ _) rfl ?_
 exact⟨rfl,G.out⟩
theorem Hb (n:Tx) (r:Ex):PSt (.var n true (some r)):=by
 intro w W t d S b h J K hd C;rw[ci]at J;obtain⟨M,N,O,hn,l⟩:=J;unfold SmP at K;obtain⟨_,D⟩:=K;rw[cP]at hd;have a:t++([118,97,114,32]++n)++[32,112,116,114]++([32,61,32]++(cV r++[59]))=t++stT d (.var n true (some r)):=by
  simp[stT,aF]
 rw[<- a]at C ⊢;have F:=aa h;have G:=aa hn;have y:=aa C;have k:b<W:=M;obtain⟨o,p,q,s,u,v,x⟩:=bZ hn;have z:=aa l;have H:=cE.start h;have E:aX (LtP W) w w:=λ_ _ _ h=>h;have g:=aa (H.put2 (c:=2) [118,97,114,32] n (by have:=y.out;simp only[ac]at this ⊢;omega));clear H E h hn C a l
 go_enter func117,ntmps117
 go_wp2_with fail;refine g.mono ?_;rintro e P ⟨rfl,A⟩;have m:=A.tree F.out;clear g o p q s u v x;obtain⟨o,p,q,s,u,v,x⟩:=bZ (m b _ k G.out);have i:=aa (A.put1 (c:=1) [32,112,116,114] (by have:=y.out;simp only[ac]at this ⊢;omega));clear A m;go_wp2_with fail;refine i.mono ?_;rintro e Q ⟨rfl,B⟩;have f:=B.tree F.out;clear i o p q s u v x;obtain⟨o,p,q,s,u,v,x⟩:=bZ (f b _ k G.out);have j:=aa (B.ended [32,61,32] (z.onA f) D (by have:=y.out;simp only[ac]at this ⊢;omega));clear B f;go_wp2_with fail;refine j.mono ?_;rintro e R ⟨rfl,I⟩;have L:=aa I;clear I j o p q s u v x;go_wp2_with fail
 first|go_end0|refine aN (cp rfl _ _ _) rfl ?_
 exact⟨rfl,L.out⟩
theorem JQ (n:Tx) (r:Ex):PSt (.set n r):=by
 intro w W t d N b h q s hd j;rw[ci]at q;obtain⟨x,K,L,hn,f⟩:=q;unfold SmP at s;obtain⟨k,l⟩:=s;have A:=k.1;rw[cP]at hd;have a:t++(n++[32,61,32]++(cV r++[59]))=t++stT d (.set n r):=by
  simp[stT,aF]
 rw[<- a]at j ⊢;have I:=aa h;have J:=aa hn;have v:=aa j;have y:b<W:=x;obtain⟨B,C,D,E,F,G,H⟩:=bZ hn;have i:=aa f;have m:=(cE.start h).below (ai _ _).drew;have g:aX (LtP W) w w.drew:=aX.below (ai _ _).drew;have c:=aa (m.ended (n++[32,61,32]) (i.onA g) l (by have:=v.out;simp only[ac]at this ⊢;omega));clear m g h hn j a f;have z:¬(9223372036854775807<n.length+3):=by omega
 have p:=Lg n [32,61,32]
 go_enter func117,ntmps117
 go_wp2_with fail
 go_still_tail 10,(by kernel_rfl)
 change wpList _ _ _ _ _ w.drew;go_wp2_with fail;refine c.mono ?_;rintro e M ⟨rfl,o⟩;have u:=aa o;clear o c B C D E F G H;go_wp2_with fail
 first|go_end0|refine aN (cp rfl _ _ _) rfl ?_
 exact⟨rfl,u.out⟩
theorem Hi (l r:Ex):PSt (.cell l r):=by
 intro w W t d U b h J K hd u;rw[ci]at J;obtain⟨O,Q,P,R,hn,k,m⟩:=J;unfold SmP at K;obtain⟨v,x,y⟩:=K;rw[cP]at hd;have f:t++exT l 8++([32,61,32]++(cV r++[59]))=t++stT d (.cell l r):=by
  rw[gi (show(8:Int)<=lvl l by rcases v with⟨a,b,e|e⟩<;>(rw[e];exact Int.le_refl 8))];simp[stT,aF]
 rw[<- f]at u ⊢;have M:=aa h;have N:=aa hn;have G:=aa u;have s:b<W:=O;obtain⟨z,A,B,C,D,E,F⟩:=bZ hn;have o:=aa k;have p:=aa m;have H:=cE.start h;have n:aX (LtP W) w w:=λ_ _ _ h=>h;have i:=aa (H.ex (gw l) (o.onA n) x (c:=8) (by omega) (by have:=G.out;simp only[ac]at this ⊢;omega));clear H n h hn u f k m
 go_enter func117,ntmps117
 go_wp2_with fail;refine i.mono ?_;rintro e S ⟨rfl,q⟩;have g:=q.tree M.out;clear i z A B C D E F;obtain⟨z,A,B,C,D,E,F⟩:=bZ (g b _ s N.out);have j:=aa (q.ended [32,61,32] (p.onA g) y (by have:=G.out;simp only[ac]at this ⊢;omega));clear q g;go_wp2_with fail;refine j.mono ?_;rintro e T ⟨rfl,I⟩;have L:=aa I;clear I j z A B C D E F;go_wp2_with fail
 first|go_end0|refine aN (cp rfl _ _ _) rfl ?_
 exact⟨rfl,L.out⟩
theorem JS (r:Ex) (x y:List Sm) (H0:PBr (.iff r x y)):PSt (.iff r x y):=by
 intro w W t d N b h o v hd k;rw[ci]at o;obtain⟨n,G,H,I,J,s,j,hn,a⟩:=o;have c:t++stT d (.iff r x y)=t++stT d (.iff r x y):=by
  rfl
 rw[<- c]at k ⊢;have K:=aa h;have L:=aa hn;have q:=aa k;have u:b<W:=n;obtain⟨z,A,B,C,D,E,F⟩:=bZ hn;have i:=aa (show ci w (LtP W) b (.iff r x y) by rw[ci];exact⟨n,G,H,I,J,s,j,hn,a⟩);have l:=cE.start h;have g:aX (LtP W) w w:=λ_ _ _ h=>h;have f:=aa (l.br H0 (i.onA g) v (by omega) (by have:=q.out;simp only[ac]at this ⊢;omega));clear l g h hn k c a
 go_enter func117,ntmps117
 go_wp2_with fail;refine f.mono ?_;rintro e M ⟨rfl,m⟩;have p:=aa m;clear m f z A B C D E F;go_wp2_with fail
 first|go_end0|refine aN (cp rfl _ _ _) rfl ?_
 exact⟨rfl,p.out⟩
theorem JP (r:Ex) (x:List Sm) (H0:Eo x):PSt (.whl r x):=by
 intro w W t d Z b h M N hd F;rw[ci]at M;obtain⟨R,T,U,S,Q,hn,m,n,O⟩:=M;unfold SmP at N;obtain⟨o,G⟩:=N;rw[cP]at hd;have a:t++[119,104,105,108,101,32]++exT r 1++iW d x=t++stT d (.whl r x):=by
  rw[gi (gU o)];simp[stT,iW,aF]
 rw[<- a]at F ⊢;have I:=aa h;have J:=aa hn;have A:=aa F;have l:b<W:=R;obtain⟨p,q,s,u,v,y,z⟩:=bZ hn;have B:=aa m;have C:=aa (show jU w (LtP W) S x from⟨Q,n,O⟩);have K:=cE.start h;have H:aX (LtP W) w w:=λ_ _ _ h=>h;have i:=aa (K.put1 (c:=1) [119,104,105,108,101,32] (by have:=A.out;simp only[ac]at this ⊢;omega));clear K H h hn F a m n O
 go_enter func117,ntmps117
 go_wp2_with fail;refine i.mono ?_;rintro e V ⟨rfl,D⟩;have f:=D.tree I.out;clear i p q s u v y z;obtain⟨p,q,s,u,v,y,z⟩:=bZ (f b _ l J.out);have j:=aa (D.ex (gw r) (B.onA f) o (c:=1) (by omega) (by have:=A.out;simp only[ac]at this ⊢;omega));clear D f;go_wp2_with fail;refine j.mono ?_;rintro e X ⟨rfl,E⟩;have g:=E.tree I.out;clear j p q s u v y z;obtain⟨p,q,s,u,v,y,z⟩:=bZ (g b _ l J.out);have k:=aa (E.blk H0 (C.onP g) G (by omega) (by have:=A.out;simp only[ac]at this ⊢;omega));clear E g;go_wp2_with fail;refine k.mono ?_;rintro e Y ⟨rfl,L⟩;have P:=aa L;clear L k p q s u v y z;go_wp2_with fail
 first|go_end0|refine aN (cp rfl _ _ _) rfl ?_
 exact⟨rfl,P.out⟩
theorem JR (r:Ex):PSt (.out r):=by
 intro w W t d I b h n o hd j;rw[ci]at n;obtain⟨s,F,G,hn,f⟩:=n;unfold SmP at o;have k:=o;rw[cP]at hd;have a:t++([111,117,116,32]++(cV r++[59]))=t++stT d (.out r):=by
  simp[stT,aF]
 rw[<- a]at j ⊢;have D:=aa h;have E:=aa hn;have q:=aa j;have u:b<W:=s;obtain⟨v,x,y,z,A,B,C⟩:=bZ hn;have i:=aa f;have l:=cE.start h;have g:aX (LtP W) w w:=λ_ _ _ h=>h;have c:=aa (l.ended [111,117,116,32] (i.onA g) k (by have:=q.out;simp only[ac]at this ⊢;omega));clear l g h hn j a f
 go_enter func117,ntmps117
 go_wp2_with fail;refine c.mono ?_;rintro e H ⟨rfl,m⟩;have p:=aa m;clear m c v x y z A B C;go_wp2_with fail
 first|go_end0|refine aN (cp rfl _ _ _) rfl ?_
 exact⟨rfl,p.out⟩
theorem Hh (r:Ex):PSt (.free r):=by
 intro w W t d I b h n o hd j;rw[ci]at n;obtain⟨s,F,G,hn,f⟩:=n;unfold SmP at o;have k:=o;rw[cP]at hd;have a:t++([102,114,101,101,32]++(cV r++[59]))=t++stT d (.free r):=by
  simp[stT,aF]
 rw[<- a]at j ⊢;have D:=aa h;have E:=aa hn;have q:=aa j;have u:b<W:=s;obtain⟨v,x,y,z,A,B,C⟩:=bZ hn;have i:=aa f;have l:=cE.start h;have g:aX (LtP W) w w:=λ_ _ _ h=>h;have c:=aa (l.ended [102,114,101,101,32] (i.onA g) k (by have:=q.out;simp only[ac]at this ⊢;omega));clear l g h hn j a f
 go_enter func117,ntmps117
 go_wp2_with fail;refine c.mono ?_;rintro e H ⟨rfl,m⟩;have p:=aa m;clear m c v x y z A B C;go_wp2_with fail
 first|go_end0|refine aN (cp rfl _ _ _) rfl ?_
 exact⟨rfl,p.out⟩
theorem Eu:PSt (.drain):=by
 intro w W t d E b h l B hd g;rw[ci]at l;obtain⟨o,C,hn⟩:=l;rw[cP]at hd;have a:t++[100,114,97,105,110,59]=t++stT d (.drain):=by
  simp[stT,aF]
 rw[<- a]at g ⊢;have z:=aa h;have A:=aa hn;have n:=aa g;have p:b<W:=o;obtain⟨q,r,s,u,v,x,y⟩:=bZ hn;have j:=cE.start h;have i:aX (LtP W) w w:=λ_ _ _ h=>h;have f:=aa (j.put1 (c:=1) [100,114,97,105,110,59] (by have:=n.out;simp only[ac]at this ⊢;omega));clear j i h hn g a
 go_enter func117,ntmps117
 go_wp2_with fail;refine f.mono ?_;rintro e D ⟨rfl,k⟩;have m:=aa k;clear k f q r s u v x y;go_wp2_with fail
 first|go_end0|refine aN (cp rfl _ _ _) rfl ?_
 exact⟨rfl,m.out⟩
theorem Hg:PSt (.ret none):=by
 intro w W t d E b h l B hd g;rw[ci]at l;obtain⟨o,C,hn⟩:=l;rw[cP]at hd;have a:t++[114,101,116,117,114,110,59]=t++stT d (.ret none):=by
  simp[stT,aF]
 rw[<- a]at g ⊢;have z:=aa h;have A:=aa hn;have n:=aa g;have p:b<W:=o;obtain⟨q,r,s,u,v,x,y⟩:=bZ hn;have j:=cE.start h;have i:aX (LtP W) w w:=λ_ _ _ h=>h;have f:=aa (j.put1 (c:=1) [114,101,116,117,114,110,59] (by have:=n.out;simp only[ac]at this ⊢;omega));clear j i h hn g a
 go_enter func117,ntmps117
 go_wp2_with fail;refine f.mono ?_;rintro e D ⟨rfl,k⟩;have m:=aa k;clear k f q r s u v x y;go_wp2_with fail
 first|go_end0|refine aN (cp rfl _ _ _) rfl ?_
 exact⟨rfl,m.out⟩
theorem Hf (r:Ex):PSt (.ret (some r)):=by
 intro w W t d I b h n o hd j;rw[ci]at n;obtain⟨s,F,G,hn,f⟩:=n;unfold SmP at o;have k:=o;rw[cP]at hd;have a:t++([114,101,116,117,114,110,32]++(cV r++[59]))=t++stT d (.ret (some r)):=by
  simp[stT,aF]
 rw[<- a]at j ⊢;have D:=aa h;have E:=aa hn;have q:=aa j;have u:b<W:=s;obtain⟨v,x,y,z,A,B,C⟩:=bZ hn;have i:=aa f;have l:=cE.start h;have g:aX (LtP W) w w:=λ_ _ _ h=>h;have c:=aa (l.ended [114,101,116,117,114,110,32] (i.onA g) k (by have:=q.out;simp only[ac]at this ⊢;omega));clear l g h hn j a f
 go_enter func117,ntmps117
 go_wp2_with fail;refine c.mono ?_;rintro e H ⟨rfl,m⟩;have p:=aa m;clear m c v x y z A B C;go_wp2_with fail
 first|go_end0|refine aN (cp rfl _ _ _) rfl ?_
 exact⟨rfl,p.out⟩
theorem Hj (r:Ex):PSt (.call r):=by
 intro w W t d I b h n o hd j;rw[ci]at n;obtain⟨s,F,G,hn,f⟩:=n;unfold SmP at o;obtain⟨_,k⟩:=o;rw[cP]at hd;have a:t++([]++(cV r++[59]))=t++stT d (.call r):=by
  simp[stT,aF]
 rw[<- a]at j ⊢;have D:=aa h;have E:=aa hn;have q:=aa j;have u:b<W:=s;obtain⟨v,x,y,z,A,B,C⟩:=bZ hn;have i:=aa f;have l:=cE.start h;have g:aX (LtP W) w w:=λ_ _ _ h=>h;have c:=aa (l.ended [] (i.onA g) k (by have:=q.out;simp only[ac]at this ⊢;omega));clear l g h hn j a f
 go_enter func117,ntmps117
 go_wp2_with fail;refine c.mono ?_;rintro e H ⟨rfl,m⟩;have p:=aa m;clear m c v x y z A B C;go_wp2_with fail
 first|go_end0|refine aN (cp rfl _ _ _) rfl ?_
 exact⟨rfl,p.out⟩
theorem wF {g c:Nat} {bs:List Nat} (h:li w A 195 (.slice (some ⟨g,0,none⟩) (0+1) c) bs.length (bs.map pB)) (hl:bs.length=0+1) (hb:bs[0]?=some b):w.cell? ⟨g,0,none⟩=some (pB b):=by
 have a:=h.1;rw[hl]at a;rw[a.cellAt 0 (by omega),aG,hb];rfl
theorem wu (h:ci w A b x):∃k,w.cell? ⟨b,0,none⟩=some (.int .i64 k)/\(k==(4:Int))=tq x:=by
 match x,h with
 | .var n p none,h=>rw[ci]at h;obtain⟨_,d,hn⟩:=h;exact⟨_,(bZ hn).1,rfl⟩
 | .var n p (some r),h=>rw[ci]at h;obtain⟨_,d,e,hn,_⟩:=h;exact⟨_,(bZ hn).1,rfl⟩
 | .set n r,h=>rw[ci]at h;obtain⟨_,d,e,hn,_⟩:=h;exact⟨_,(bZ hn).1,rfl⟩
 | .cell l r,h=>rw[ci]at h;obtain⟨_,d,j,e,hn,_⟩:=h;exact⟨_,(bZ hn).1,rfl⟩
 | .iff r a c,h=>rw[ci]at h;obtain⟨_,d,e,i,m,f,g,hn,_⟩:=h;exact⟨_,(bZ hn).1,rfl⟩
 | .whl r a,h=>rw[ci]at h;obtain⟨_,d,e,i,f,hn,_⟩:=h;exact⟨_,(bZ hn).1,rfl⟩
 | .out r,h=>rw[ci]at h;obtain⟨_,d,e,hn,_⟩:=h;exact⟨_,(bZ hn).1,rfl⟩
 | .free r,h=>rw[ci]at h;obtain⟨_,d,e,hn,_⟩:=h;exact⟨_,(bZ hn).1,rfl⟩
 | .drain,h=>rw[ci]at h;obtain⟨_,d,hn⟩:=h;exact⟨_,(bZ hn).1,rfl⟩
 | .ret none,h=>rw[ci]at h;obtain⟨_,d,hn⟩:=h;exact⟨_,(bZ hn).1,rfl⟩
 | .ret (some r),h=>rw[ci]at h;obtain⟨_,d,e,hn,_⟩:=h;exact⟨_,(bZ hn).1,rfl⟩
 | .call r,h=>rw[ci]at h;obtain⟨_,d,e,hn,_⟩:=h;exact⟨_,(bZ hn).1,rfl⟩
theorem Lh (r:Ex) (x:List Sm) (H0:Eo x):PBr (.iff r x ([])):=by
 intro w W t d wb b h S T hd O;rw[ci]at S;obtain⟨hA,ln,rb,vx,vy,Z,z,hn,A,B,U,a,F⟩:=S;unfold SmP at T;obtain⟨C,P,a0⟩:=T;obtain⟨va,vn,vc,rfl⟩:=cc a.1;have E:vn=z.length:=eR a.1 rfl;have i:=(fT F).1;rw[aW]at i;rw[i]at E;subst E;clear i;rw[cP]at hd;have f:t++[105,102,32]++exT r 1++iW d x=t++stT d (.iff r x ([])):=by
  rw[gi (gU C)];simp[stT,iW,aF]
 rw[<- f]at O ⊢;have G:=aa h;have I:=aa hn;have H:=aa O;have g:b<W:=hA;obtain⟨l,m,n,o,p,q,s⟩:=bZ hn;have J:=aa A;have K:=aa (show jU w (LtP W) vx x from⟨Z,B,U⟩);have X:=aa (show jU w (LtP W) (.slice va 0 vc) ([]) from⟨z,a,F⟩);have Y:=aa a;have HY:=aa F;have R:=cE.start h;have Q:aX (LtP W) w w:=λ_ _ _ h=>h;have u:=aa (R.put1 (c:=1) [105,102,32] (by have:=H.out;simp only[ac]at this ⊢;omega));clear R Q h hn O f A B U a F
 go_enter func175,ntmps175
 go_wp2_with fail;refine u.mono ?_;rintro e u1 ⟨rfl,L⟩;have j:=L.tree G.out;clear u l m n o p q s;obtain⟨l,m,n,o,p,q,s⟩:=bZ (j b _ g I.out);have v:=aa (L.ex (gw r) (J.onA j) C (c:=1) (by omega) (by have:=H.out;simp only[ac]at this ⊢;omega));clear L j;go_wp2_with fail;refine v.mono ?_;rintro e u2 ⟨rfl,M⟩;have k:=M.tree G.out;clear v l m n o p q s;obtain⟨l,m,n,o,p,q,s⟩:=bZ (k b _ g I.out);have y:=aa (M.blk H0 (K.onP k) P (by omega) (by have:=H.out;simp only[ac]at this ⊢;omega));clear M k;go_wp2_with fail;refine y.mono ?_;rintro e u3 ⟨rfl,N⟩;have D:=N.tree G.out;clear l m n o p q s;obtain⟨l,m,n,o,p,q,s⟩:=bZ (D b _ g I.out);have V:=aa N;clear N D y;go_wp2_with fail
 first|go_end0|refine aN (cp rfl _ _ _) rfl ?_
 exact⟨rfl,V.out⟩
theorem JD (r:Ex) (x:List Sm) (y:Sm) (hif:tq y=false) (H1:Eo [y]) (H0:Eo x):PBr (.iff r x ([y])):=by
 intro w W t d wb b h ho hp hd hl;rw[ci]at ho;obtain⟨hA,ln,rb,vx,vy,bx,I,hn,J,K,hx,a,P⟩:=ho;unfold SmP at hp;obtain⟨L,a1,a2⟩:=hp;obtain⟨va,vn,vc,rfl⟩:=cc a.1;have M:vn=I.length:=eR a.1 rfl;have f:=(fT P).1;rw[aC,aW]at f;rw[f]at M;subst M;obtain⟨g,hg,_⟩:=eV (n:=0+1) (by have:=a.1;rw[f]at this;exact this) (j:=0) (by omega);subst hg;obtain⟨xb,O,N⟩:=(fT P).2 0 _ rfl;have S:=aa f;have Z:=aa O;have Y:=aa N;clear f O N;rw[cP]at hd;have v:t++[105,102,32]++exT r 1++iW d x++[32,101,108,115,101]++iW d [y]=t++stT d (.iff r x ([y])):=by
  rw[gi (gU L)];simp[stT,iW,aF,jB,hif]
 rw[<- v]at hl ⊢;have Q:=aa h;have R:=aa hn;have H:=aa hl;have i:b<W:=hA;obtain⟨l,m,o,p,q,s,u⟩:=bZ hn;have T:=aa J;have U:=aa (show jU w (LtP W) vx x from⟨bx,K,hx⟩);have V:=aa (show jU w (LtP W) (.slice (some ⟨g,0,none⟩) (0+1) vc) ([y]) from⟨I,a,P⟩);have X:=aa a;have HY:=aa P;have h1:=cE.start h;have a3:aX (LtP W) w w:=λ_ _ _ h=>h;have C:=aa (h1.put1 (c:=1) [105,102,32] (by have:=H.out;simp only[ac]at this ⊢;omega));clear h1 a3 h hn hl v J K hx a P
 go_enter func175,ntmps175
 go_wp2_with fail;refine C.mono ?_;rintro e u1 ⟨rfl,h2⟩;have z:=h2.tree Q.out;clear C l m o p q s u;obtain⟨l,m,o,p,q,s,u⟩:=bZ (z b _ i R.out);have D:=aa (h2.ex (gw r) (T.onA z) L (c:=1) (by omega) (by have:=H.out;simp only[ac]at this ⊢;omega));clear h2 z;go_wp2_with fail;refine D.mono ?_;rintro e u2 ⟨rfl,h3⟩;have A:=h3.tree Q.out;clear D l m o p q s u;obtain⟨l,m,o,p,q,s,u⟩:=bZ (A b _ i R.out);have E:=aa (h3.blk H0 (U.onP A) a1 (by omega) (by have:=H.out;simp only[ac]at this ⊢;omega));clear h3 A;go_wp2_with fail;refine E.mono ?_;rintro e u3 ⟨rfl,h4⟩;have k:=h4.tree Q.out;clear E l m o p q s u;obtain⟨l,m,o,p,q,s,u⟩:=bZ (k b _ i R.out);have F:=aa (h4.put1 (c:=1) [32,101,108,115,101] (by have:=H.out;simp only[ac]at this ⊢;omega));have a4:=wF (X.on k) S.out Z.out;obtain⟨kr,a5,a0⟩:=wu (Y.onA k);rw[hif]at a0;clear h4 k;go_wp2_with fail;refine F.mono ?_;rintro e u4 ⟨rfl,h5⟩;have B:=h5.tree Q.out;clear F l m o p q s u;obtain⟨l,m,o,p,q,s,u⟩:=bZ (B b _ i R.out);have G:=aa (h5.blk H1 (V.onP B) a2 (by omega) (by have:=H.out;simp only[ac]at this ⊢;omega));clear h5 B;go_wp2_with fail;refine G.mono ?_;rintro e u5 ⟨rfl,h6⟩;have HF:=aa h6;clear h6 G l m o p q s u;go_wp2_with fail
 first|go_end0|refine aN (cp rfl _ _ _) rfl ?_
 exact⟨rfl,HF.out⟩
theorem JC (r:Ex) (x:List Sm) (y z:Sm) (l:List Sm) (H1:Eo (y::z::l)) (H0:Eo x):PBr (.iff r x (y::z::l)):=by
 intro w W t d wb b h ho hp hd Y;rw[ci]at ho;obtain⟨hA,ln,rb,vx,vy,bx,H,hn,I,J,hx,a,P⟩:=ho;unfold SmP at hp;obtain⟨K,Z,a0⟩:=hp;obtain⟨va,M,vc,rfl⟩:=cc a.1;have A:M=H.length:=eR a.1 rfl;have q:=(fT P).1;have a3:((M:Int)==1)=false:=by rw[A,q];simp;omega
 have a4:0<M:=by rw[A,q];simp
 have a5:decide (0<M)=true:=by simp;omega
 clear q A;rw[cP]at hd;have p:t++[105,102,32]++exT r 1++iW d x++[32,101,108,115,101]++iW d (y::z::l)=t++stT d (.iff r x (y::z::l)):=by
  rw[gi (gU K)];simp[stT,iW,aF,jB]
 rw[<- p]at Y ⊢;have N:=aa h;have O:=aa hn;have G:=aa Y;have f:b<W:=hA;obtain⟨g,i,j,k,m,n,o⟩:=bZ hn;have Q:=aa I;have R:=aa (show jU w (LtP W) vx x from⟨bx,J,hx⟩);have S:=aa (show jU w (LtP W) (.slice va M vc) (y::z::l) from⟨H,a,P⟩);have a2:=aa a;have HY:=aa P;have h1:=cE.start h;have a1:aX (LtP W) w w:=λ_ _ _ h=>h;have B:=aa (h1.put1 (c:=1) [105,102,32] (by have:=G.out;simp only[ac]at this ⊢;omega));clear h1 a1 h hn Y p I J hx a P
 go_enter func175,ntmps175
 go_wp2_with fail;refine B.mono ?_;rintro e u1 ⟨rfl,T⟩;have s:=T.tree N.out;clear B g i j k m n o;obtain⟨g,i,j,k,m,n,o⟩:=bZ (s b _ f O.out);have C:=aa (T.ex (gw r) (Q.onA s) K (c:=1) (by omega) (by have:=G.out;simp only[ac]at this ⊢;omega));clear T s;go_wp2_with fail;refine C.mono ?_;rintro e u2 ⟨rfl,U⟩;have u:=U.tree N.out;clear C g i j k m n o;obtain⟨g,i,j,k,m,n,o⟩:=bZ (u b _ f O.out);have D:=aa (U.blk H0 (R.onP u) Z (by omega) (by have:=G.out;simp only[ac]at this ⊢;omega));clear U u;go_wp2_with fail;refine D.mono ?_;rintro e u3 ⟨rfl,V⟩;have L:=V.tree N.out;clear D g i j k m n o;obtain⟨g,i,j,k,m,n,o⟩:=bZ (L b _ f O.out);have E:=aa (V.put1 (c:=1) [32,101,108,115,101] (by have:=G.out;simp only[ac]at this ⊢;omega));clear V L;go_wp2_with fail;refine E.mono ?_;rintro e u4 ⟨rfl,X⟩;have v:=X.tree N.out;clear E g i j k m n o;obtain⟨g,i,j,k,m,n,o⟩:=bZ (v b _ f O.out);have F:=aa (X.blk H1 (S.onP v) a0 (by omega) (by have:=G.out;simp only[ac]at this ⊢;omega));clear X v;go_wp2_with fail;refine F.mono ?_;rintro e u5 ⟨rfl,h6⟩;have HF:=aa h6;clear h6 F g i j k m n o;go_wp2_with fail
 first|go_end0|refine aN (cp rfl _ _ _) rfl ?_
 exact⟨rfl,HF.out⟩
theorem Li (r:Ex) (x:List Sm) (y:Sm) (hif:tq y=true) (H1:PBr y) (H0:Eo x):PBr (.iff r x ([y])):=by
 intro w W t d wb b h ho hp hd hl;rw[ci]at ho;obtain⟨hA,ln,rb,vx,vy,bx,N,hn,Q,R,hx,a,X⟩:=ho;unfold SmP at hp;obtain⟨S,a2,a3⟩:=hp;obtain⟨va,vn,vc,rfl⟩:=cc a.1;have T:vn=N.length:=eR a.1 rfl;have f:=(fT X).1;rw[aC,aW]at f;rw[f]at T;subst T;obtain⟨g,hg,_⟩:=eV (n:=0+1) (by have:=a.1;rw[f]at this;exact this) (j:=0) (by omega);subst hg;obtain⟨xb,V,U⟩:=(fT X).2 0 _ rfl;have E:=aa f;have M:=aa V;have B:=aa U;clear f V U;rw[cP]at hd;have A:t++[105,102,32]++exT r 1++iW d x++[32,101,108,115,101,32]++stT d y=t++stT d (.iff r x ([y])):=by
  rw[gi (gU S)];simp[stT,iW,aF,jB,hif,F0]
 rw[<- A]at hl ⊢;have Y:=aa h;have Z:=aa hn;have K:=aa hl;have k:b<W:=hA;obtain⟨o,p,q,s,u,v,z⟩:=bZ hn;have a0:=aa Q;have a1:=aa (show jU w (LtP W) vx x from⟨bx,R,hx⟩);have a5:=aa (show jU w (LtP W) (.slice (some ⟨g,0,none⟩) (0+1) vc) ([y]) from⟨N,a,X⟩);have L:=aa a;have HY:=aa X;have h1:=cE.start h;have a4:aX (LtP W) w w:=λ_ _ _ h=>h;have F:=aa (h1.put1 (c:=1) [105,102,32] (by have:=K.out;simp only[ac]at this ⊢;omega));clear h1 a4 h hn hl A Q R hx a X
 go_enter func175,ntmps175
 go_wp2_with fail;refine F.mono ?_;rintro e u1 ⟨rfl,h2⟩;have C:=h2.tree Y.out;clear F o p q s u v z;obtain⟨o,p,q,s,u,v,z⟩:=bZ (C b _ k Z.out);have G:=aa (h2.ex (gw r) (a0.onA C) S (c:=1) (by omega) (by have:=K.out;simp only[ac]at this ⊢;omega));clear h2 C;go_wp2_with fail;refine G.mono ?_;rintro e u2 ⟨rfl,h3⟩;have D:=h3.tree Y.out;clear G o p q s u v z;obtain⟨o,p,q,s,u,v,z⟩:=bZ (D b _ k Z.out);have H:=aa (h3.blk H0 (a1.onP D) a2 (by omega) (by have:=K.out;simp only[ac]at this ⊢;omega));clear h3 D;go_wp2_with fail;refine H.mono ?_;rintro e u3 ⟨rfl,h4⟩;have m:=h4.tree Y.out;clear H o p q s u v z;obtain⟨o,p,q,s,u,v,z⟩:=bZ (m b _ k Z.out);have I:=aa (h4.put1 (c:=1) [32,101,108,115,101,32] (by have:=K.out;simp only[ac]at this ⊢;omega));have O:=wF (L.on m) E.out M.out;obtain⟨kr,P,l⟩:=wu (B.onA m);rw[hif]at l;clear h4 m;go_wp2_with fail;refine I.mono ?_;rintro e u4 ⟨rfl,h5⟩;have i:=h5.tree Y.out;clear I o p q s u v z;obtain⟨o,p,q,s,u,v,z⟩:=bZ (i b _ k Z.out);have J:=aa (h5.br H1 (B.onA i) (show SmP y by have:=a3;unfold jW at this;exact this.1) (by simp only[bL]at hd;omega) (by have:=K.out;simp only[ac]at this ⊢;omega));clear O P l;have O:=wF (L.on i) E.out M.out;obtain⟨kr,P,l⟩:=wu (B.onA i);rw[hif]at l;clear h5 i;go_wp2_with fail;refine J.mono ?_;rintro e u5 ⟨rfl,h6⟩;have HF:=aa h6;clear h6 J o p q s u v z;go_wp2_with fail
 first|go_end0|refine aN (cp rfl _ _ _) rfl ?_
 exact⟨rfl,HF.out⟩
mutual
theorem Ix:∀x:Sm,PSt x/\(tq x=true->PBr x)
 | .var n false none=>⟨He n,λh=>by cases h⟩
 | .var n true none=>⟨Hd n,λh=>by cases h⟩
 | .var n false (some r)=>⟨Hc n r,λh=>by cases h⟩
 | .var n true (some r)=>⟨Hb n r,λh=>by cases h⟩
 | .set n r=>⟨JQ n r,λh=>by cases h⟩
 | .cell l r=>⟨Hi l r,λh=>by cases h⟩
 | .iff r a b=>by
  have d:=Cq λx hx=>(nE a x hx).1;have c:=nE b;have h:PBr (.iff r a b):=by
   match b,c with
   | [],_=>exact Lh r a d
   | [y],c =>
    have e:=c y (aL ..);cases hi:tq y with
    | true=>exact Li r a y hi (e.2 hi) d
    | false=>exact JD r a y hi (Cq λx hx=>(c x hx).1) d
   | y::z::l,c=>exact JC r a y z l (Cq λx hx=>(c x hx).1) d
  exact⟨JS r a b h,λ_=>h⟩
 | .whl r a=>⟨JP r a (Cq λx hx=>(nE a x hx).1),λh=>by cases h⟩
 | .out r=>⟨JR r,λh=>by cases h⟩
 | .free r=>⟨Hh r,λh=>by cases h⟩
 | .drain=>⟨Eu,λh=>by cases h⟩
 | .ret none=>⟨Hg,λh=>by cases h⟩
 | .ret (some r)=>⟨Hf r,λh=>by cases h⟩
 | .call r=>⟨Hj r,λh=>by cases h⟩
theorem nE:∀l:List Sm,∀x∈l,PSt x/\(tq x=true->PBr x)
 | [],x,h=>by cases h
 | y::l,x,h=>by
  rcases aR.1 h with e|h
  ·rw[e];exact Ix y
  ·exact nE l x h
end
theorem yM (l:List Sm):Eo l:=Cq λx hx=>(nE l x hx).1
end Go.Proofs.YtbeaaimcpkogcaaGreatDoor
