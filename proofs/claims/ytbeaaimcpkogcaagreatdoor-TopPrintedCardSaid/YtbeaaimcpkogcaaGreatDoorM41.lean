/- Lemmas on the way to the claim. -/
import Derived.Test.YtbeaaimcpkogcaaGreatDoorM32
import Derived.Test.YtbeaaimcpkogcaaGreatDoorM39
set_option linter.unusedSimpArgs false
set_option linter.unusedVariables false
set_option maxHeartbeats 4000000
set_option maxRecDepth 100000
namespace Go.Proofs.YtbeaaimcpkogcaaGreatDoor
open Go.Proofs.Tryz Go.RowKit
variable {w z:World} {G j:Nat} {x:Par}
theorem oZ:∀{ps:List Par} {j:Nat} {x:Par},ps[j]?=some x->(bE ps)[j*2]?=some (.string ⟨x.name.toArray⟩)/\(bE ps)[j*2+1]?=some (.bool x.ptr)
 | [],j,x,h=>by simp at h
 | y::ps,0,x,h=>by simp at h;subst h;exact⟨rfl,rfl⟩
 | y::ps,j+1,x,h=>by
  have a:=oZ (ps:=ps) (j:=j) (by simpa using h);have e:bE (y::ps)=.string ⟨y.name.toArray⟩::.bool y.ptr::bE ps:=by simp[bE]
  rw[e,show(j+1)*2=j*2+1+1 by omega];exact a
theorem wQ {base n c:Nat} {ps:List Par} {xa:Option Addr} (h:w.ownsRow base 140 2 (.slice xa n c) n (bE ps)) (hn:n=ps.length) (hx:ps[j]?=some x):∃g,xa=some ⟨g,0,none⟩/\w.cell? ⟨g,j*2,none⟩=some (.string ⟨x.name.toArray⟩)/\w.cell? ⟨g,j*2+1,none⟩=some (.bool x.ptr):=by
 obtain⟨k,_⟩:=aE.1 hx;rcases h.2 with⟨_,i⟩|⟨g,a,b,d,_⟩
 ·omega
 ·injection d with h1 h2 h3
  subst h1 h3;obtain⟨e,f⟩:=oZ hx;exact⟨g,rfl,(h.cellAt (j*2) (by omega)).trans e,(h.cellAt (j*2+1) (by omega)).trans f⟩
def wM (p:Bool):Tx:=if p=true then[32,112,116,114]else[]
theorem rN:∀(l:List Par) (b:Bool) (x:Par),dK b (l++[x])=dK b l++((if b=true/\l=[]then[]else[44,32])++(x.name++wM x.ptr))
 | [],b,x=>by cases b<;>simp[dK,wM]
 | y::l,b,x=>by
  rw[bB,dK,rN l false x,dK];simp[aF]
theorem Aq {l:List Par} (h:l[j]?=some x):dK true (l.take (j+1))=dK true (l.take j)++((if j=0 then[]else[44,32])++(x.name++wM x.ptr)):=by
 have a:=(aE.1 h).1;rw[bT,h,cy,rN];congr 2
 by_cases hj:j=0
 ·subst hj;simp
 ·have:l.take j≠[]:=by intro e;have:=aB List.length e;rw[bN,aW]at this;omega
  simp[hj,this]
theorem Fg (l:List Par) (j:Nat):(dK true (l.take j)).length<=(dK true l).length:=by
 have a:∀(l:List Par) (j:Nat) (b:Bool),(dK b (l.take j)).length<=(dK b l).length:=λl=>by
  induction l with
  | nil=>intro j b;simp
  | cons x l ih =>
   intro j b;cases j with
   | zero=>rw[bO,dK];simp
   | succ j =>
    rw[gW,dK,dK];have:=ih j false;simp only[ac];omega
 exact a l j true
theorem rX {b:Nat} {nm:Tx} {vp:Value} {p:Bool} {vb:Value} {ln:Int} (h:w.heap[b]?=some (fnC nm vp p vb ln)):
  w.cell? ⟨b,0,none⟩=some (.string ⟨nm.toArray⟩)/\w.cell? ⟨b,1,none⟩=some vp/\w.cell? ⟨b,2,none⟩=some (.bool p)/\w.cell? ⟨b,3,none⟩=some vb:=
 ⟨(ae h 0).trans rfl,(ae h 1).trans rfl,(ae h 2).trans rfl,(ae h 3).trans rfl⟩
def JM (z:World) (G:Nat) (x:Par):Prop:=z.heap[G]?=some (.cells #[.string ⟨x.name.toArray⟩,.bool x.ptr] 140 (0,0))
theorem JM.c (h:JM z G x):z.cell? ⟨G,0,none⟩=some (.string ⟨x.name.toArray⟩)/\z.cell? ⟨G,1,none⟩=some (.bool x.ptr):=
 ⟨(ae h 0).trans rfl,(ae h 1).trans rfl⟩
theorem JM.chg {S:Nat->Prop} {u:World} (h:JM z G x) (hc:Chg S z u) (hn:¬S G):JM u G x:=(hc.block G (ab h) hn).trans h
theorem Mb (f:Fun) (w:World) (W:Nat) (t:Tx) (wb:Option Nat) (b:Nat) (h:WR w W t 0 wb) (ho:ji w (LtP W) b f) (hp:FunP f) (hpl:f.params.length<=900000) (hd:bL f.body<=900000) (hl:(t++A7 f).length<=100000000000):
  Calls prog 18 #[pB W,pB b] w λe w'=>e=.returned (.tuple #[])/\cE W (t++A7 f) 0 wb w w':=by
 obtain⟨hA,ln,vp,vb,bs,hn,n,a2,a3⟩:=ho;have M:b<W:=hA;have E:t++([102,117,110,99,32]++(f.name++[40]))++dK true f.params++[41]++wM f.ptr++iW 0 f.body++[10]=t++A7 f:=by
  unfold A7 wM;simp[aF]
 rw[<- E]at hl ⊢;have HH:=aa h;have HN:=aa hn;have T:=aa hl;have Z:=aa hp.body;have a0:=aa (show jU w (LtP W) vb f.body from⟨bs,a2,a3⟩);obtain⟨l,a8⟩:∃l,t++([102,117,110,99,32]++(f.name++[40]))=l:=⟨_,rfl⟩;have d:=aa ((cE.start h).put3 (c:=3) [102,117,110,99,32] f.name [40] (by have:=T.out;simp only[ac]at this ⊢;omega));rw[a8]at d T ⊢;obtain⟨va,vn,vc,rfl⟩:=cc n.1;have ad:vn=f.params.length:=eR n.1 rfl;subst ad;have Y:=aa n;obtain⟨F,G,y,H⟩:=rX hn;clear h hn hl n a2 a3 E a8 hp
 go_enter func18,ntmps18
 go_wp2_with fail;refine d.mono ?_;rintro e u1 ⟨rfl,h2⟩;have a6:=h2.tree HH.out;clear d F G y H;obtain⟨F,G,y,H⟩:=rX (a6 b _ M HN.out);have a1:=aa (show cE W (l++dK true (f.params.take 0)) 0 wb w u1 by rw[bO,dK,bo];exact h2);clear h2 a6;go_wp2_with fail
 go_loopw [4,5,23] (λ_ _ s23 wr=>∃j:Nat,s23=.int .i64 j/\j<=f.params.length/\Hid (cE W (l++dK true (f.params.take j)) 0 wb w wr)) (λ_ _ s23 _=>match s23 with | .int _ j=>f.params.length-j.toNat|_=>0)
 case atStart=>exact⟨0,rfl,aV _,a1⟩
 case round =>
  clear a1 F G y H
  rename World=>w5
  obtain⟨j,rfl,hj,hr⟩:=hrel
  by_cases hlt:j<f.params.length
  ·obtain⟨x,hx⟩:∃x,f.params[j]?=some x:=⟨_,aw hlt⟩
   have a4:decide ((j:Int)<(f.params.length:Int))=true:=by simp;omega
   have m:f.params.length-((j:Int)+1).toNat<f.params.length-(j:Int).toNat:=gd hlt;have a7:=hr.out.tree HH.out;obtain⟨xg,rfl,q0,q1⟩:=wQ (Y.on a7).1 rfl hx;have P:=Aq hx;have N:(l++dK true (f.params.take j)++(if j=0 then[]else[44,32])++x.name++wM x.ptr).length<=100000000000:=by
    have h1:=Fg f.params (j+1);rw[P]at h1;have h2:=T.out;simp only[ac]at h1 h2 ⊢;omega
   obtain⟨t5,A⟩:∃t5,l++dK true (f.params.take j)=t5:=⟨_,rfl⟩;have p:=aa (show l++dK true (f.params.take (j+1))=t5++(if j=0 then[]else[44,32])++x.name++wM x.ptr by rw[P,<- A];simp[aF]);rw[A]at N;have i:=aa N;have Q:cE W t5 0 wb w w5:=by rw[<- A];exact hr.out
   obtain⟨S,B⟩:∃S,WR w5 W t5 0 S:=⟨_,Q.2.choose_spec.1⟩;have U:=aa (Q.below ((ai _ _).alloc (ag _) (.cells #[.string ⟨x.name.toArray⟩,.bool x.ptr] 140)));have q:=aa (B.below ((ai _ _).alloc (ag _) (.cells #[.string ⟨x.name.toArray⟩,.bool x.ptr] 140)));have K:=aa (show JM (w5.alloc (.cells #[.string ⟨x.name.toArray⟩,.bool x.ptr] 140)) w5.heap.size x from nL _ _);have J:Hid (¬WW W S w5.heap.size):=λe=>e.elim (λe=>by have:=B.lt;omega) λe=>by have:=(B.ge _ e).2;omega
   clear hr hx a7 A N P Q B;have ae:=aa (show w5.heap[w5.heap.size]?=none from by simp)
   by_cases hj0:j=0
   ·subst hj0
    rw[ax rfl,bo]at p i;have a5:decide ((0:Int)<((0:Nat):Int))=false:=by simp
    have k:=(cE.start q.out).put1 (c:=1) x.name (by have:=i.out;simp only[ac]at this ⊢;omega);rw[ah]at k;have d:=aa k;clear k;go_wp2_with fail;refine d.mono ?_;rintro e u6 ⟨rfl,g⟩;clear d q0 q1;obtain⟨z0,C⟩:=(K.chg g.1 J.out).c;cases hxp:x.ptr with
    | true =>
     rw[hxp]at C;have L:=aa hxp;have v:=aa (g.put1 (c:=1) [32,112,116,114] (by have:=i.out;rw[hxp]at this;simp only[wM,tr,ac]at this ⊢;omega));clear g hxp;go_wp2_with fail;refine v.mono ?_;rintro e u7 ⟨rfl,r⟩;have a:=aa (show cE W (l++dK true (f.params.take (0+1))) 0 wb w u7 by rw[p.out,L.out];have O:=U.into q.out r;simpa [wM]using O);clear r v z0 C;go_wp2_with fail;exact⟨⟨0+1,by simp,hlt,a⟩,m⟩
    | false =>
     rw[hxp]at C;have a:=aa (show cE W (l++dK true (f.params.take (0+1))) 0 wb w u6 by rw[p.out,hxp];have O:=U.into q.out g;simpa [wM]using O);clear g hxp;go_wp2_with fail;exact⟨⟨0+1,by simp,hlt,a⟩,m⟩
   ·rw[ap hj0]at p i
    have a5:decide ((0:Int)<(j:Int))=true:=by simp;omega
    have ab:0<j:=by omega
    have k:=(cE.start q.out).put1 (c:=1) [44,32] (by have:=i.out;simp only[ac]at this ⊢;omega);rw[ah]at k;have d:=aa k;clear k;go_wp2_with fail;refine d.mono ?_;rintro e u6 ⟨rfl,g⟩;clear d q0 q1;obtain⟨z0,C⟩:=(K.chg g.1 J.out).c;have v:=aa (g.put1 (c:=1) x.name (by have:=i.out;simp only[ac]at this ⊢;omega));have H6:=aa g;clear g;go_wp2_with fail;refine v.mono ?_;rintro e u7 ⟨rfl,r⟩;clear v z0 C H6;obtain⟨z0,C⟩:=(K.chg r.1 J.out).c;cases hxp:x.ptr with
    | true =>
     rw[hxp]at C;have L:=aa hxp;have X:=aa (r.put1 (c:=1) [32,112,116,114] (by have:=i.out;rw[hxp]at this;simp only[wM,tr,ac]at this ⊢;omega));clear r hxp;go_wp2_with fail;refine X.mono ?_;rintro e u8 ⟨rfl,D⟩;have a:=aa (show cE W (l++dK true (f.params.take (j+1))) 0 wb w u8 by rw[p.out,L.out];have O:=U.into q.out D;simpa [wM]using O);clear D X z0 C;go_wp2_with fail;exact⟨⟨j+1,by simp,hlt,a⟩,m⟩
    | false =>
     rw[hxp]at C;have a:=aa (show cE W (l++dK true (f.params.take (j+1))) 0 wb w u7 by rw[p.out,hxp];have O:=U.into q.out r;simpa [wM]using O);clear r hxp;go_wp2_with fail;exact⟨⟨j+1,by simp,hlt,a⟩,m⟩
  ·have a9:j=f.params.length:=by omega
   have a4:decide ((j:Int)<(f.params.length:Int))=false:=by simp;omega
   have U:=aa (show cE W (l++dK true f.params) 0 wb w w5 by have:=hr.out;rw[cH (by omega)]at this;exact this);have HC:=aa (U.put1 (c:=1) [41] (by have:=T.out;simp only[ac]at this ⊢;omega));clear hr a9;go_wp2_with fail;refine HC.mono ?_;rintro e u6 ⟨rfl,g⟩;have z:=g.tree HH.out;obtain⟨F,G,y,H⟩:=rX (z b _ M HN.out);cases hfp:f.ptr with
   | true =>
    rw[hfp]at y;have I:=aa hfp;have o:=aa (show(l++dK true f.params++[41]++[32,112,116,114]++iW 0 f.body++[10]).length<=100000000000 by have:=T.out;rw[hfp]at this;simpa [wM]using this);have V:=aa (g.put1 (c:=1) [32,112,116,114] (by have:=o.out;simp only[ac]at this ⊢;omega));clear g HC z hfp;go_wp2_with fail;refine V.mono ?_;rintro e u7 ⟨rfl,r⟩;have R:=r.tree HH.out;clear V F G y H;obtain⟨F,G,y,H⟩:=rX (R b _ M HN.out);have s:=aa (r.blk (yM f.body) (a0.onP R) Z.out (by omega) (by have:=o.out;simp only[ac]at this ⊢;omega));clear r R;go_wp2_with fail;refine s.mono ?_;rintro e u8 ⟨rfl,D⟩;have u:=aa (D.put1 (c:=1) [10] o.out);clear D s F G y H;go_wp2_with fail;refine u.mono ?_;rintro e u9 ⟨rfl,h9⟩;have HF:=aa h9;clear h9 u;go_wp2_with fail;go_end0;exact⟨rfl,by rw[I.out];exact HF.out⟩
   | false =>
    rw[hfp]at y;have I:=aa hfp;have o:=aa (show(l++dK true f.params++[41]++iW 0 f.body++[10]).length<=100000000000 by have:=T.out;rw[hfp]at this;simpa [wM]using this);have s:=aa (g.blk (yM f.body) (a0.onP z) Z.out (by omega) (by have:=o.out;simp only[ac]at this ⊢;omega));clear g HC z hfp;go_wp2_with fail;refine s.mono ?_;rintro e u8 ⟨rfl,D⟩;have u:=aa (D.put1 (c:=1) [10] o.out);clear D s F G y H;go_wp2_with fail;refine u.mono ?_;rintro e u9 ⟨rfl,h9⟩;have HF:=aa (show cE W (l++dK true f.params++[41]++[]++iW 0 f.body++[10]) 0 wb w u9 by rw[bo];exact h9);clear h9 u;go_wp2_with fail;go_end0;exact⟨rfl,by rw[I.out];exact HF.out⟩
end Go.Proofs.YtbeaaimcpkogcaaGreatDoor
