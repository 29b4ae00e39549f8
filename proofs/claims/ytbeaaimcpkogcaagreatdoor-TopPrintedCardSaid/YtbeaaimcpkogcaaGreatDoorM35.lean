/- Lemmas on the way to the claim. -/
import Derived.Test.YtbeaaimcpkogcaaGreatDoorM17
import Derived.Test.YtbeaaimcpkogcaaGreatDoorM30
set_option linter.unusedSimpArgs false
set_option linter.unusedVariables false
set_option maxHeartbeats 4000000
set_option maxRecDepth 100000
namespace Go.Proofs.YtbeaaimcpkogcaaGreatDoor
open Go.Proofs.Tryz Go.RowKit
variable {S:Nat->Prop} {b c u v w w' z:World} {a at' lo m n:Nat} {bv ev fv nv:Value} {g g':GS} {eb wb wb':Option Nat} {e:Ending} {l:List Ins} {i:Ins} {N:FuncId} {args y:Array Value} {o:Obj} {r:Int} {f2:Nat×Nat}
theorem Tryz.info40:(Tryz.prog.info? 40).map (λi=>(i.zero,i.size,i.bytes))=some (some (.int .u32 0),1,4):=by kernel_rfl
def gf (l:List Int):List Value:=l.map (Value.int .u32)
structure GM (w:World) (m:Nat) (fv bv nv ev:Value) (g:GS) (wb:Option Nat) (lo:Nat):Prop where
 ex:∃wv,w.heap[m]?=some (.cells #[wv,fv,bv,nv,ev,.bool g.bad] 332 (0,0))/\w.ownsRow 0 40 1 wv g.words.length (gf g.words)/\wv.ownBlock=wb
 rg:∀x∈g.words,0<=x/\x<4294967296
 tab:Tab w
 l:1<lo/\lo<=m/\∀q,wb=some q->lo<=q
def WS (m:Nat) (wb:Option Nat):Nat->Prop:=λi=>i=m\/wb=some i
theorem Tab.chg (h:Tab w) (hc:Chg S w w') (hn:¬S 1):Tab w':=by
 obtain⟨a,t,b,c⟩:=h;exact⟨bu a hc.size,t,b,by rw[hc.block 1 a hn];exact c⟩
theorem GM.chg (h:GM w m fv bv nv ev g wb lo) (hc:Chg S w w') (h1:¬S m) (h2:∀q,wb=some q->¬S q) (h3:¬S 1):GM w' m fv bv nv ev g wb lo:=by
 obtain⟨d,a,b,c⟩:=h.ex;exact⟨⟨d,by rw[hc.block _ (ab a) h1];exact a,aY b hc λq hq=>h2 q (c.symm.trans hq),c⟩,h.rg,h.tab.chg hc h3,h.l⟩
theorem GM.below (h:GM w m fv bv nv ev g wb lo) (hb:Below w.heap.size w w'):GM w' m fv bv nv ev g wb lo:=
 h.chg (Chg.of_below (S:=λ_=>False) hb) id (λ_ _=>id) id
theorem GM.lt (h:GM w m fv bv nv ev g wb lo):m<w.heap.size/\∀q,wb=some q->q<w.heap.size:=by
 obtain⟨d,a,b,c⟩:=h.ex;exact⟨ab a,λq hq=>uG b (c.trans hq)⟩
theorem GM.ne (h:GM w m fv bv nv ev g wb lo):∀q,wb=some q->¬q=m:=by
 obtain⟨k,a,b,c⟩:=h.ex;intro q i e;obtain⟨f,j,d⟩:=bG b (c.trans i);rw[e,a]at d;injection d with d;injection d with _ h9 _;exact absurd h9 (by decide)
def iC (m:Nat) (fv bv nv ev:Value) (g':GS) (wb:Option Nat) (lo:Nat) (w:World) (e:Ending) (w':World):Prop:=
 e=.returned (.tuple #[])/\Chg (WS m wb) w w'/\∃wb',GM w' m fv bv nv ev g' wb' lo/\(wb'=wb\/∀q,wb'=some q->w.heap.size<=q)
def ep (m:Nat) (fv bv nv ev:Value) (g':GS) (wb:Option Nat) (lo:Nat) (w w':World):Prop:=
 Chg (WS m wb) w w'/\∃wb',GM w' m fv bv nv ev g' wb' lo/\(wb'=wb\/∀q,wb'=some q->w.heap.size<=q)
theorem WS.then {a:World} (h:Chg (WS m wb) a b) (h2:Chg (WS m wb') b c) (hu:wb'=wb\/∀q,wb'=some q->a.heap.size<=q):Chg (WS m wb) a c:=by
 refine h.trans h2 λi hi d=>?_;rcases d with d|d
 ·exact .inl d
 ·rcases hu with rfl|hu
  ·exact .inr d
  ·have:=hu i d;omega
theorem DA (op a b c m:Int):0<=iS op a b c m/\iS op a b c m<4294967296:=by
 unfold iS;split
 ·rename_i h
  obtain⟨e,f,g,i,j,d⟩:=CL h;unfold ez xo;cases hj:ir (fm op) 106 with
  | true=>simp only[tr];split<;>omega
  | false=>have:=d hj;simp only[bl,gy];split<;>omega
 ·omega
theorem gS {base:Nat} {e:TypeId} {size:Nat} {v:Value} {xs:List Value} (h:w.ownsRow base e size v n xs) {a:Option Addr} {c:Nat} (hv:v=.slice a m c):m=n:=by
 rcases h.2 with⟨rfl,rfl⟩|⟨g,b,d,rfl,_⟩
 ·injection hv with _ h2 _;exact h2.symm
 ·injection hv with _ h2 _;exact h2.symm
def tP (w:World) (B:Nat) (l:List Ins):Prop:=∀j i,l[j]?=some i ->
 w.cell? ⟨B,j*5,none⟩=some (.int .i64 i.op)/\w.cell? ⟨B,j*5+1,none⟩=some (.int .i64 i.a)/\w.cell? ⟨B,j*5+1+1,none⟩=some (.int .i64 i.b)/\w.cell? ⟨B,j*5+1+1+1,none⟩=some (.int .i64 i.c)/\w.cell? ⟨B,j*5+1+1+1+1,none⟩=some (.int .i64 i.m)
theorem tP.chg {B:Nat} (h:tP w B l) (hc:Chg S w w') (hn:¬S B):tP w' B l:=λj i hi=>by
 obtain⟨a,b,c,d,e⟩:=h j i hi;have g:=aH a;have f:∀o v,w.cell? ⟨B,o,none⟩=some v->w'.cell? ⟨B,o,none⟩=some v:=λo v hv=>(aI (w:=w) (a:=⟨B,o,none⟩) (hc.block B g hn)).trans hv;exact⟨f _ _ a,f _ _ b,f _ _ c,f _ _ d,f _ _ e⟩
theorem DB {j:Nat} (h:l[j]?=some i) (g:GS):cL (l.take (j+1)) g=em1 (cL (l.take j) g) i:=by
 obtain⟨a,b⟩:=aE.1 h;rw[iN a,b];unfold cL;rw[List.foldl_append];rfl
theorem od:∀(l:List Ins) (g:GS),(cL l g).words.length=g.words.length+l.length
 | [],g=>rfl
 | i::l,g=>by
  show(cL l (em1 g i)).words.length=_;rw[od l,aC];show(g.words++[_]).length+l.length=_;rw[ac];simp;omega
theorem GM.app {w1:World} {wv:Value} {bad:Bool} {gg cap:Nat} (hl:lo<=z.heap.size) (ht:Tab z) (hlo:1<lo/\lo<=m/\∀q,wb=some q->lo<=q) (hrg:∀x∈g.words,0<=x/\x<4294967296)
 (hm:z.heap[m]?=some (.cells #[wv,fv,bv,nv,ev,.bool bad] 332 (0,0))) (hwb:wv.ownBlock=wb) (hne:∀q,wb=some q->¬q=m)
 (hg:(z.alloc (.cells #[.int .u32 (iS i.op i.a i.b i.c i.m)] 40)).grownBy w1 wv.ownBlock) (hown:w1.ownsRow 0 40 1 (.slice (some ⟨gg,0,none⟩) (g.words.length+1) cap) (g.words.length+1) (gf g.words++[.int .u32 (iS i.op i.a i.b i.c i.m)])) (hat:wv.ownBlock=some gg\/gg=z.heap.size+1)
 (hbad:bad=(em1 g i).bad):
  Chg (WS m wb) z (w1.setCell ⟨m,0,none⟩ (.slice (some ⟨gg,0,none⟩) (g.words.length+1) cap))/\∃wb',GM (w1.setCell ⟨m,0,none⟩ (.slice (some ⟨gg,0,none⟩) (g.words.length+1) cap)) m fv bv nv ev (em1 g i) wb' lo/\(wb'=wb\/∀q,wb'=some q->z.heap.size<=q):=by
 have r:=ab hm;have l:Chg (WS m wb) z w1:=((Chg.refl _ _).alloc _).grown hg λk hk _=>.inr (by rw[<- hwb];exact hk);have f:Chg (WS m wb) z (w1.setCell ⟨m,0,none⟩ (.slice (some ⟨gg,0,none⟩) (g.words.length+1) cap)):=l.setCell (p:=⟨m,0,none⟩) (λ_=>.inl rfl) _;have o:w1.heap[m]?=some (.cells #[wv,fv,bv,nv,ev,.bool bad] 332 (0,0)):=by
  rw[hg.block m (by rw[ah];omega) (λe=>hne m (by rw[<- hwb];exact e.symm) rfl),aK _ _ _ r];exact hm
 have n:¬gg=m:=by
  rcases hat with h|h
  ·exact hne gg (by rw[<- hwb];exact h)
  ·omega
 refine⟨f,some gg,⟨⟨.slice (some ⟨gg,0,none⟩) (g.words.length+1) cap,?_,?_,rfl⟩,?_,?_,hlo.1,hlo.2.1,?_⟩,?_⟩
 ·rw[<- hbad];exact aA (j:=0) o _
 ·have t:(em1 g i).words.length=g.words.length+1:=by show(g.words++[_]).length=_;simp
  have u:gf (em1 g i).words=gf g.words++[.int .u32 (iS i.op i.a i.b i.c i.m)]:=by unfold gf em1;simp
  rw[t,u];exact gX hown (p:=⟨m,0,none⟩) (λq d=>by injection d with d;subst d;exact n) _
 ·intro x v
  have s:x∈g.words++[iS i.op i.a i.b i.c i.m]:=v;rcases aU.1 s with h|h
  ·exact hrg x h
  ·rw[aZ]at h;subst h;exact DA _ _ _ _ _
 ·refine ht.chg f λe=>?_
  rcases e with e|e
  ·omega
  ·have:=hlo.2.2 1 e;omega
 ·intro q d
  injection d with d;subst d;rcases hat with h|h
  ·exact hlo.2.2 gg (by rw[<- hwb];exact h)
  ·omega
 ·rcases hat with h|h
  ·exact .inl (by rw[<- hwb];exact h.symm)
  ·exact .inr λq d=>by injection d with d;omega
def EmL (m:Nat) (fv bv nv ev:Value) (g:GS) (wb:Option Nat) (lo:Nat) (l:List Ins) (w:World) (j:Nat) (wr:World):Prop:=ep m fv bv nv ev (cL (l.take j) g) wb lo w wr
theorem FV (w:World) (m:Nat) (fv bv nv ev:Value) (g:GS) (wb:Option Nat) (lo:Nat) (h:GM w m fv bv nv ev g wb lo) (B c n:Nat) (l:List Ins) (hB:tP w B l) (hn:n=l.length) (hm:¬B=m) (hq:wb≠some B) (hBl:0<n->B<w.heap.size) (hl:l.length<=10) (hw:g.words.length+l.length<=1000000000):
  Calls prog 253 #[pB m,.slice (some ⟨B,0,none⟩) n c] w (iC m fv bv nv ev (cL l g) wb lo w):=by
 have a3:=aa (show EmL m fv bv nv ev g wb lo l w 0 w from⟨Chg.refl _ _,wb,h,.inl rfl⟩);have an:=aa hB;have HQ:=aa hq;have HH:=aa h;have HN:=aa hn;have aM:n<=10:=by omega
 have aP:n<=9223372036854775807:=by omega
 clear h hB hq hn
 go_enter func253,ntmps253
 go_wp2_with fail
 go_loopw [5,6,7,10] (λ_ _ _ s10 wr=>∃j:Nat,s10=.int .i64 j/\j<=n/\Hid (EmL m fv bv nv ev g wb lo l w j wr)) (λ_ _ _ s10 _=>match s10 with | .int _ j=>n-j.toNat|_=>0)
 case atStart=>exact⟨0,rfl,aV _,a3⟩
 case round =>
  clear a3
  rename World=>w5
  obtain⟨j,rfl,hj,hr⟩:=hrel;obtain⟨hc,T,hG,R⟩:=hr.out;clear hr;have HC:=aa hc;have k:=aa hG;have M:=aa R
  by_cases hlt:j<n
  ·obtain⟨i,hi⟩:∃i,l[j]?=some i:=⟨_,aw (by have:=HN.out;omega)⟩
   have aN:=hBl (by omega);have a5:=an.chg hc (λe=>e.elim hm λe=>HQ.out e);obtain⟨c0,c1,c2,c3,c4⟩:=a5 j i hi;have HI:=aa hi;have a6:decide ((j:Int)<(n:Int))=true:=by simp;omega
   have N:Below w5.heap.size w5 (w5.alloc (.cells (fP i.op i.a i.b i.c i.m) 99)):=az;have X:=aa (zx (w5.alloc (.cells (fP i.op i.a i.b i.c i.m) 99)) (w5.alloc (.cells (fP i.op i.a i.b i.c i.m) 99)) (ai _ _) (hG.tab.below N) i.op i.a i.b i.c i.m);have V:=aa N;clear hi a5 hc hG R N;go_wp2_with fail;refine X.mono ?_;rintro e u ⟨rfl,hu⟩;have HU:=aa (V.trans (hu.mono V.size));clear hu X;obtain⟨a,C⟩:∃a,cL (l.take j) g=a:=⟨_,rfl⟩;have a7:a.words.length=g.words.length+j:=by rw[<- C,od,bN];have:=HN.out;omega
   have al:=aa C;have aO:a.words.length<1000000000:=by have:=HN.out;omega
   clear a7;rw[C]at k;obtain⟨wv,a9,f,ac⟩:=k.ex;obtain⟨wa,wn,wc,D⟩:=bD f;have aE:wn=a.words.length:=gS f D;subst aE;have s:u.heap[m]?=some (.cells #[wv,fv,bv,nv,ev,.bool a.bad] 332 (0,0)):=(HU.block m k.lt.1).trans a9;have d0:u.cell? ⟨m,0,none⟩=some (.slice wa a.words.length wc):=by rw[<- D];exact(ae s 0).trans rfl
   have d5:u.cell? ⟨m,5,none⟩=some (.bool a.bad):=(ae s 5).trans rfl;have f5:u.frozen? ⟨m,5,none⟩=false:=aD u m 5 _ _ s;have Z:=aa s;have G:=aa f;have L:=aa ac;have o:=aa D;have am:=aa k.lt;obtain⟨x,hx⟩:∃x,jh i.op i.a i.b i.c i.m=x:=⟨_,rfl⟩;obtain⟨H,O⟩:∃H,a.bad=H:=⟨_,rfl⟩;have HX:=aa hx;have ag:=aa O;rw[hx];rw[O]at d5;clear C a9 f ac D s hx O c0 c1 c2 c3 c4;have r:(H=true)\/(H=false/\(x != 0)=true)\/(H=false/\x=0/\decide ((4096:Int)<=(a.words.length:Int))=true)\/(H=false/\x=0/\decide ((4096:Int)<=(a.words.length:Int))=false):=by
    cases H with
    | true=>exact .inl rfl
    | false =>
     by_cases U:x=0
     ·by_cases h1:4096<=a.words.length
      ·exact .inr (.inr (.inl ⟨rfl,U,by simp;omega⟩))
      ·exact .inr (.inr (.inr ⟨rfl,U,by simp;omega⟩))
     ·exact .inr (.inl ⟨rfl,by simpa using U⟩)
   have aj:=aa r;clear r;obtain⟨nb,P⟩:∃nb,(em1 a i).bad=nb:=⟨_,rfl⟩;have A:Hid (nb=(H||decide (x≠0)||decide (4096<=a.words.length))):=by
    rw[<- P,<- ag.out,<- HX.out];rfl
   have a0:=aa P;clear P
   go_upto_region 4 with fail
   go_cut [] from 19 to 37 (λwx=>wx=u.setCell ⟨m,5,none⟩ (.bool nb))
   case first =>
    rcases aj.out with rfl|⟨rfl,y⟩|⟨rfl,rfl,y⟩|⟨rfl,rfl,y⟩
    ·have J:=aa (show nb=true by rw[A.out];rfl)
     go_wp2_with fail
     go_meet
     rw[J.out]
    ·have U:x≠0:=by simpa using y
     have J:=aa (show nb=true by rw[A.out];simp[U]);clear U;go_wp2_with fail
     go_meet
     rw[J.out]
    ·have h4:4096<=a.words.length:=by have:=bm y;omega
     have J:=aa (show nb=true by rw[A.out];simp[h4]);clear h4;go_wp2_with fail
     go_meet
     rw[J.out]
    ·have h4:¬4096<=a.words.length:=by have:=of_decide_eq_false y;omega
     have J:=aa (show nb=false by rw[A.out];simp[h4]);clear h4;go_wp2_with fail
     go_meet
     rw[J.out]
   case rest =>
    subst hcut;have HZ:=aa (show Chg (WS m T) w5 (u.setCell ⟨m,5,none⟩ (.bool nb)) from(Chg.of_below HU.out).setCell (p:=⟨m,5,none⟩) (λ_=>.inl rfl) _);have E:(u.setCell ⟨m,5,none⟩ (.bool nb)).heap[m]?=some (.cells #[wv,fv,bv,nv,ev,.bool nb] 332 (0,0)):=aA (j:=5) Z.out _;have ad:(u.setCell ⟨m,5,none⟩ (.bool nb)).heap.size=u.heap.size:=by simp[World.setCell]
    have Q:Tab (u.setCell ⟨m,5,none⟩ (.bool nb)):=k.tab.chg HZ.out λe=>by
     have hl:=k.l;rcases e with e|e
     ·omega
     ·have:=hl.2.2 1 e;omega
    have d:(u.setCell ⟨m,5,none⟩ (.bool nb)).ownsRow 0 40 1 (.slice wa a.words.length wc) a.words.length (gf a.words):=by
     rw[<- o.out];refine gX (aY G.out (Chg.of_below (S:=λ_=>False) HU.out) λ_ _=>id) (p:=⟨m,5,none⟩) (λq hq=>k.ne q (by rw[<- L.out];exact hq)) _
    have aC:m<u.heap.size:=bu am.out.1 HU.size;generalize hz:u.setCell ⟨m,5,none⟩ (.bool nb)=z at HZ E ad Q d;have e0:z.cell? ⟨m,0,none⟩=some (.slice wa a.words.length wc):=by rw[<- o.out];exact(ae E 0).trans rfl
    obtain⟨W,hW⟩:∃W,iS i.op i.a i.b i.c i.m=W:=⟨_,rfl⟩;have aq:=aa hW;rw[hW];have a4:=aa E;have a1:=aa d;have ap:=aa Q;have ab:m<z.heap.size:=by omega
    have ax:lo<=z.heap.size:=by have:=k.l.2.1;omega
    have K:Hid (∀F:World,(z.alloc (.cells #[.int .u32 W] 40)).grownBy F (Value.slice wa a.words.length wc).ownBlock->F.frozen? ⟨m,0,none⟩=false/\∃v,F.cell? ⟨m,0,none⟩=some v):=λF hg=>by
     have a8:F.heap[m]?=some (.cells #[wv,fv,bv,nv,ev,.bool nb] 332 (0,0)):=by
      rw[hg.block m (by rw[ah];omega) (λe=>k.ne m (by rw[<- L.out,o.out];exact e.symm) rfl),aK _ _ _ ab];exact a4.out
     exact⟨aD F m 0 _ _ a8,_,(ae a8 0).trans rfl⟩
    obtain⟨i0,av,aF,aG,aH⟩:=cX Tryz.info40;clear hz E d Q ad aC hW d0 d5 f5 HU Z G
    go_wp2_with (at_builtin;refine wpList_append_lies _ rfl _ _ 34 rfl 0 40 i0 (.int .u32 0) 1 4 underlying34 av aF aG aH rfl (by decide) _ _ _ rfl (a1.alloc _) ⟨z.heap.size,0,none⟩ 1 1 [.int .u32 W] rfl rfl (eu z _ _) (by simp[Value.oneCell']) (by decide) (by unfold maxLen;omega) (by omega) (aV _) (z.heap.size+1) (by simp) ?_;intro gg ar F t b I aL;obtain⟨k0,v0,k1⟩:=K.out F b;have ao:=aa t;have ak:=aa b;have af:=aa I;clear t b I)
    have a2:=aa (show EmL m fv bv nv ev g wb lo l w (j+1) (F.setCell ⟨m,0,none⟩ (.slice (some ⟨gg,0,none⟩) (a.words.length+1) ar)) by
     have au:=aq.out;subst au;obtain⟨q1,aJ,q2,q3⟩:=GM.app (i:=i) (g:=a) (wb:=T) ax ap.out k.l k.rg a4.out L.out k.ne (by rw[o.out];exact ak.out) ao.out (by rw[o.out];exact af.out) a0.symm;have aI:w.heap.size<=z.heap.size:=ay HC.size HZ.size;refine⟨WS.then HC.out (HZ.then q1) M.out,aJ,?_,?_⟩
     ·rw[DB HI.out,al.out];exact q2
     ·rcases q3 with rfl|q3
      ·exact M.out
      ·exact .inr λq hq=>ay aI (q3 q hq))
    have aB:n-((j:Int)+1).toNat<n-(j:Int).toNat:=ee hlt
    go_roundw
    case rel=>exact⟨j+1,by simp,hlt,a2⟩
    case measure=>exact aB
  ·have a6:decide ((j:Int)<(n:Int))=false:=by simp;omega
   have Y:=aa (show ep m fv bv nv ev (cL l g) wb lo w w5 by
    have:l.take j=l:=cH (by have:=HN.out;omega);rw[<- this];exact⟨HC.out,T,k.out,M.out⟩)
   clear hc hG R;go_wp2_with fail;go_end0;exact⟨rfl,Y.out⟩
theorem eG (z:World) (a0 a1 a2 a3 a4:Int):tP (z.alloc (.cells #[.int .i64 a0,.int .i64 a1,.int .i64 a2,.int .i64 a3,.int .i64 a4] 99)) z.heap.size [⟨a0,a1,a2,a3,a4⟩]:=by
 have hn:=af z (.cells #[.int .i64 a0,.int .i64 a1,.int .i64 a2,.int .i64 a3,.int .i64 a4] 99);have a:=λo=>ae hn o;intro j i b
 match j,b with
 | 0,b =>
  simp at b;subst b;exact⟨(a 0).trans rfl,(a 1).trans rfl,(a 2).trans rfl,(a 3).trans rfl,(a 4).trans rfl⟩
 | j+1,b=>simp at b
theorem nS (z:World) (a0 a1 a2 a3 a4 b0 b1 b2 b3 b4:Int):tP (z.alloc (.cells #[.int .i64 a0,.int .i64 a1,.int .i64 a2,.int .i64 a3,.int .i64 a4,.int .i64 b0,.int .i64 b1,.int .i64 b2,.int .i64 b3,.int .i64 b4] 99)) z.heap.size [⟨a0,a1,a2,a3,a4⟩,⟨b0,b1,b2,b3,b4⟩]:=by
 have hn:=af z (.cells #[.int .i64 a0,.int .i64 a1,.int .i64 a2,.int .i64 a3,.int .i64 a4,.int .i64 b0,.int .i64 b1,.int .i64 b2,.int .i64 b3,.int .i64 b4] 99);have a:=λo=>ae hn o;intro j i b
 match j,b with
 | 0,b =>
  simp at b;subst b;exact⟨(a 0).trans rfl,(a 1).trans rfl,(a 2).trans rfl,(a 3).trans rfl,(a 4).trans rfl⟩
 | 1,b =>
  simp at b;subst b;exact⟨(a 5).trans rfl,(a 6).trans rfl,(a 7).trans rfl,(a 8).trans rfl,(a 9).trans rfl⟩
 | j+2,b=>simp at b
theorem FG (z:World) (a0 a1 a2 a3 a4 b0 b1 b2 b3 b4 c0 c1 c2 c3 c4:Int):tP (z.alloc (.cells #[.int .i64 a0,.int .i64 a1,.int .i64 a2,.int .i64 a3,.int .i64 a4,.int .i64 b0,.int .i64 b1,.int .i64 b2,.int .i64 b3,.int .i64 b4,.int .i64 c0,.int .i64 c1,.int .i64 c2,.int .i64 c3,.int .i64 c4] 99)) z.heap.size [⟨a0,a1,a2,a3,a4⟩,⟨b0,b1,b2,b3,b4⟩,⟨c0,c1,c2,c3,c4⟩]:=by
 have hn:=af z (.cells #[.int .i64 a0,.int .i64 a1,.int .i64 a2,.int .i64 a3,.int .i64 a4,.int .i64 b0,.int .i64 b1,.int .i64 b2,.int .i64 b3,.int .i64 b4,.int .i64 c0,.int .i64 c1,.int .i64 c2,.int .i64 c3,.int .i64 c4] 99);have a:=λo=>ae hn o;intro j i b
 match j,b with
 | 0,b =>
  simp at b;subst b;exact⟨(a 0).trans rfl,(a 1).trans rfl,(a 2).trans rfl,(a 3).trans rfl,(a 4).trans rfl⟩
 | 1,b =>
  simp at b;subst b;exact⟨(a 5).trans rfl,(a 6).trans rfl,(a 7).trans rfl,(a 8).trans rfl,(a 9).trans rfl⟩
 | 2,b =>
  simp at b;subst b;exact⟨(a 10).trans rfl,(a 11).trans rfl,(a 12).trans rfl,(a 13).trans rfl,(a 14).trans rfl⟩
 | j+3,b=>simp at b
section
variable {m:Nat} {fv bv nv ev:Value} {g g':GS} {wb:Option Nat} {lo:Nat} {w u u':World}
theorem ep.start (h:GM w m fv bv nv ev g wb lo):ep m fv bv nv ev g wb lo w w:=⟨Chg.refl _ _,wb,h,.inl rfl⟩
theorem ep.below (h:ep m fv bv nv ev g wb lo w u) (hb:Below u.heap.size u u'):ep m fv bv nv ev g wb lo w u':=by
 obtain⟨b,a,c,d⟩:=h;exact⟨b.on hb,a,c.below hb,d⟩
theorem ep.size (h:ep m fv bv nv ev g wb lo w u):w.heap.size<=u.heap.size:=h.1.size
theorem ep.comp (h1:Chg (WS m wb) w u) (h3:wb'=wb\/∀q,wb'=some q->w.heap.size<=q) (q:iC m fv bv nv ev g' wb' lo u e v):e=.returned (.tuple #[])/\ep m fv bv nv ev g' wb lo w v:=by
 obtain⟨rfl,c,b,d,a⟩:=q;refine⟨rfl,WS.then h1 c h3,b,d,?_⟩;rcases a with rfl|a
 ·exact h3
 ·exact .inr λq hq=>ay h1.size (a q hq)
theorem ep.call (h:ep m fv bv nv ev g wb lo w u) (hc:∀wb',GM u m fv bv nv ev g wb' lo->Calls prog N args u (iC m fv bv nv ev g' wb' lo u)):Calls prog N args u λe v=>e=.returned (.tuple #[])/\ep m fv bv nv ev g' wb lo w v:=by
 obtain⟨a,wb',b,c⟩:=h;exact(hc wb' b).mono λe v hq=>ep.comp a c hq
theorem iC.fresh (h:iC m fv bv nv ev g' wb lo (z.alloc o) e w'):iC m fv bv nv ev g' wb lo z e w':=by
 obtain⟨c,d,b,f,a⟩:=h;refine⟨c,((Chg.refl _ _).alloc o).then d,b,f,?_⟩;rcases a with a|a
 ·exact .inl a
 ·exact .inr λq hq=>by have:=a q hq;rw[ah]at this;omega
theorem ep.emit {c:Nat} (h:ep m fv bv nv ev g wb lo w u) (hB:tP (u.alloc o) u.heap.size l) (hn:n=l.length) (hl:n<=10) (hw:g.words.length<=900000000):
  Calls prog 253 #[pB m,.slice (some ⟨u.heap.size,0,none⟩) n c] (u.alloc o) λe v=>e=.returned (.tuple #[])/\ep m fv bv nv ev (cL l g) wb lo w v:=by
 obtain⟨f,b,d,i⟩:=h;have a:=d.lt;refine(FV _ m fv bv nv ev g b lo (d.below (az)) u.heap.size c n l hB hn (by omega) (λe=>by have:=a.2 _ e;omega) (λ_=>by rw[ah];omega) (by omega) (by omega)).mono ?_;intro e v j;exact ep.comp f i j.fresh
theorem ep.post (h:ep m fv bv nv ev g wb lo w v) (he:e=.returned (.tuple #[])):iC m fv bv nv ev g wb lo w e v:=⟨he,h⟩
end
theorem iB (w:World) (a b c d:Int):Calls prog 260 #[.int .i64 a,.int .i64 b,.int .i64 c,.int .i64 d] w λe w'=>e=.returned (.agg (fP a b c d 0))/\Below w.heap.size w w':=by
 go_enter func260,ntmps260
 go_wp2_with fail;exact aN (results_cell_row (p:=8) rfl _ _ w.heap.size 99 (fP a b c d 0) (0,0) _ rfl (af _ _) underlying99 rfl (by kernel_rfl)) rfl ⟨rfl,az⟩
theorem qn (w:World) (m:Nat) (fv bv nv ev:Value) (g:GS) (wb:Option Nat) (lo:Nat) (h:GM w m fv bv nv ev g wb lo) (hw:g.words.length<=900000000) (n:Int):
  Calls prog 229 #[pB m,.int .i64 n] w (iC m fv bv nv ev (dt n g) wb lo w):=by
 have b:=aa ((ep.start h).emit (c:=1) (n:=1) (eG w 52 0 0 0 n) rfl (by omega) hw)
 go_enter func229,ntmps229
 go_wp2_with fail;refine b.mono ?_;rintro e u ⟨rfl,a⟩;have d:=aa a;clear a;go_wp2_with fail;go_end0;exact⟨rfl,d.out⟩
theorem Fk (w:World) (m:Nat) (fv bv nv ev:Value) (g:GS) (wb:Option Nat) (lo:Nat) (h:GM w m fv bv nv ev g wb lo) (hw:g.words.length<=900000000) (r:Int):
  Calls prog 270 #[pB m,.int .i64 r] w (iC m fv bv nv ev (pu r g) wb lo w):=by
 have f:=aa h;clear h
 go_enter func270,ntmps270
 go_wp2_with fail;refine(iB w 41 r 14 0).mono ?_;rintro e z ⟨rfl,b⟩;have d:=aa (((ep.start f.out).below b).emit (c:=1) (n:=1) (eG z 41 r 14 0 0) rfl (by omega) hw);clear b;go_wp2_with fail;refine d.mono ?_;rintro e u ⟨rfl,a⟩;have i:=aa a;clear a;go_wp2_with fail;go_end0;exact⟨rfl,i.out⟩
theorem IN (w:World) (m:Nat) (fv bv nv ev:Value) (g:GS) (wb:Option Nat) (lo:Nat) (h:GM w m fv bv nv ev g wb lo) (hw:g.words.length<=900000000):
  Calls prog 285 #[pB m] w (iC m fv bv nv ev (oo g) wb lo w):=by
 have f:=aa h;clear h
 go_enter func285,ntmps285
 go_wp2_with fail;refine(iB w 15 3 3 0).mono ?_;rintro e z ⟨rfl,b⟩;have d:=aa (((ep.start f.out).below b).emit (c:=1) (n:=1) (eG z 15 3 3 0 0) rfl (by omega) hw);clear b;go_wp2_with fail;refine d.mono ?_;rintro e u ⟨rfl,a⟩;have i:=aa a;clear a;go_wp2_with fail;go_end0;exact⟨rfl,i.out⟩
theorem KH {n:Int} (h0:0<=n) (h1:n<4294967296):wrap64 (wrap32 (n*1048576%4294967296)/1048576)=nN n:=by
 unfold wrap64 wrap32 nN;split<;>omega
theorem Mh {n:Int} (h0:0<=n) (h1:n<4294967296):wrap64 (wrap32 ((n-nN n)%4294967296)/4096)=JK n:=by
 unfold JK;have a:0<=(n-nN n)%4294967296/\(n-nN n)%4294967296<4294967296:=by omega
 generalize(n-nN n)%4294967296=d at a;unfold wrap64 wrap32;split<;>omega
theorem oG (w:World) (m:Nat) (fv bv nv ev:Value) (g:GS) (wb:Option Nat) (lo:Nat) (h:GM w m fv bv nv ev g wb lo) (hw:g.words.length<=900000000) (r n:Int) (h0:0<=n) (h1:n<4294967296):
  Calls prog 271 #[pB m,.int .i64 r,.int .u32 n] w (iC m fv bv nv ev (ed r n g) wb lo w):=by
 have o:=KH h0 h1;have b:=Mh h0 h1;obtain⟨L,l⟩:∃L,nN n=L:=⟨_,rfl⟩;obtain⟨H,k⟩:∃H,JK n=H:=⟨_,rfl⟩;rw[l]at o b;rw[k]at b;have q:=aa l;have a:=aa k;have p:=aa h;clear h l k
 by_cases hz:H=0
 ·have f:=aa ((ep.start p.out).emit (c:=1) (n:=1) (eG w 1 r 0 0 L) rfl (by omega) hw)
  have i:Hid (ed r n g=cL [⟨1,r,0,0,L⟩] g):=aa (by unfold ed;rw[a.out,q.out,ax hz]);subst hz
  go_enter func271,ntmps271
  go_wp2_with fail;refine f.mono ?_;rintro e u ⟨rfl,d⟩;have j:=aa d;clear d;go_wp2_with fail;go_end0;rw[i.out];exact⟨rfl,j.out⟩
 ·have f:=aa ((ep.start p.out).emit (c:=2) (n:=2) (nS w 2 r 0 0 H 16 r r 0 L) rfl (by omega) hw)
  have i:Hid (ed r n g=cL [⟨2,r,0,0,H⟩,⟨16,r,r,0,L⟩] g):=aa (by unfold ed;rw[a.out,q.out,ap hz]);have s:(H==0)=false:=by simpa using hz
  clear hz
  go_enter func271,ntmps271
  go_wp2_with fail;refine f.mono ?_;rintro e u ⟨rfl,d⟩;have j:=aa d;clear d;go_wp2_with fail;go_end0;rw[i.out];exact⟨rfl,j.out⟩
theorem rP (r n:Int) (g:GS):(ed r n g).words.length<=g.words.length+2:=by
 unfold ed;split<;>(rw[od];simp)
theorem BV (w:World) (m:Nat) (fv bv nv ev:Value) (g:GS) (wb:Option Nat) (lo:Nat) (h:GM w m fv bv nv ev g wb lo) (hw:g.words.length<=800000000) (a b c n:Int) (h0:0<=n) (h1:n<4294967296):
  Calls prog 276 #[pB m,.int .i64 a,.int .i64 b,.int .i64 c,.int .i64 n] w (iC m fv bv nv ev (eI a b c n g) wb lo w):=by
 have p:=rP 6 n g;have k:=aa (oG w m fv bv nv ev g wb lo h (by omega) 6 n h0 h1);have q:n%4294967296=n:=by omega
 clear h
 go_enter func276,ntmps276
 go_wp2_with fail;refine k.mono ?_;rintro e u ⟨rfl,d⟩;have l:=aa (show ep m fv bv nv ev (ed 6 n g) wb lo w u from d);clear d;go_wp2_with fail;refine(iB u a b c 6).mono ?_;rintro e z ⟨rfl,i⟩;have j:=aa ((l.below i).emit (c:=1) (n:=1) (eG z a b c 6 0) rfl (by omega) (by omega));clear i;go_wp2_with fail;refine j.mono ?_;rintro e v ⟨rfl,f⟩;have o:=aa f;clear f;go_wp2_with fail;go_end0;exact⟨rfl,o.out⟩
theorem yV (w:World) (m:Nat) (fv bv nv ev:Value) (g:GS) (wb:Option Nat) (lo:Nat) (h:GM w m fv bv nv ev g wb lo) (hw:g.words.length<=800000000) (what r:Int) (at':Nat) (hat:at'<=9000000000000000000):
  Calls prog 267 #[pB m,.int .i64 what,.int .i64 r,.int .i64 at'] w (iC m fv bv nv ev (qJ what r at' g) wb lo w):=by
 by_cases hs:at'<=2047
 ·have d:=aa ((ep.start h).emit (c:=1) (n:=1) (eG w what r 14 0 at') rfl (by omega) (by omega))
  have b:Hid (qJ what r at' g=cL [⟨what,r,14,0,at'⟩] g):=aa (by unfold qJ;rw[ax hs]);have hd:decide ((at':Int)<=2047)=true:=by simp;omega
  clear h
  go_enter func267,ntmps267
  go_wp2_with fail;refine d.mono ?_;rintro e u ⟨rfl,a⟩;have f:=aa a;clear a;go_wp2_with fail;go_end0;rw[b.out];exact⟨rfl,f.out⟩
 ·have p:=rP 9 ((at':Int)%4294967296) g
  have i:=aa (oG w m fv bv nv ev g wb lo h (by omega) 9 ((at':Int)%4294967296) (by omega) (by omega));have b:Hid (qJ what r at' g=cL [⟨32,9,14,9,0⟩,⟨what,r,9,0,0⟩] (ed 9 ((at':Int)%4294967296) g)):=aa (by unfold qJ;rw[ap hs]);have hd:decide ((at':Int)<=2047)=false:=by simp;omega
  obtain⟨N,o⟩:∃N,(at':Int)%4294967296=N:=⟨_,rfl⟩;rw[o]at i b p;clear h
  go_enter func267,ntmps267
  go_wp2_with fail;refine i.mono ?_;rintro e u ⟨rfl,a⟩;have f:=aa (show ep m fv bv nv ev (ed 9 N g) wb lo w u from a);clear a;go_wp2_with fail;refine(iB u 32 9 14 9).mono ?_;rintro e z ⟨rfl,k⟩;have d:=aa ((f.below k).emit (c:=2) (n:=2) (nS z 32 9 14 9 0 what r 9 0 0) rfl (by omega) (by omega));clear k;go_wp2_with fail;refine d.mono ?_;rintro e v ⟨rfl,j⟩;have l:=aa j;clear j;go_wp2_with fail;go_end0;rw[b.out];exact⟨rfl,l.out⟩
theorem Fs (w:World) (m:Nat) (fv bv nv ev:Value) (g:GS) (wb:Option Nat) (lo:Nat) (h:GM w m fv bv nv ev g wb lo) (hw:g.words.length<=800000000) (r:Int) (at':Nat) (hat:at'<=9000000000000000000):
  Calls prog 259 #[pB m,.int .i64 r,.int .i64 at'] w (iC m fv bv nv ev (mq r at' g) wb lo w):=by
 have b:=aa (yV w m fv bv nv ev g wb lo h hw 23 r at' hat);clear h
 go_enter func259,ntmps259
 go_wp2_with fail;refine b.mono ?_;rintro e u ⟨rfl,a⟩;have c:=aa a;clear a;go_wp2_with fail;go_end0;exact⟨rfl,c.out⟩
theorem Bw (w:World) (m:Nat) (fv bv nv ev:Value) (g:GS) (wb:Option Nat) (lo:Nat) (h:GM w m fv bv nv ev g wb lo) (hw:g.words.length<=800000000) (r:Int) (at':Nat) (hat:at'<=9000000000000000000):
  Calls prog 256 #[pB m,.int .i64 r,.int .i64 at'] w (iC m fv bv nv ev (fF r at' g) wb lo w):=by
 have b:=aa (yV w m fv bv nv ev g wb lo h hw 24 r at' hat);clear h
 go_enter func256,ntmps256
 go_wp2_with fail;refine b.mono ?_;rintro e u ⟨rfl,a⟩;have c:=aa a;clear a;go_wp2_with fail;go_end0;exact⟨rfl,c.out⟩
theorem GM.put (h:GM u m fv bv nv ev g wb lo) (ha:at'<g.words.length) (W:Int) (hW:0<=W/\W<4294967296) (nb:Bool):
  ∃q cap,wb=some q/\u.heap[m]?=some (.cells #[.slice (some ⟨q,0,none⟩) g.words.length cap,fv,bv,nv,ev,.bool g.bad] 332 (0,0))/\(∃x,u.cell? ⟨q,at',none⟩=some x)/\u.frozen? ⟨q,at',none⟩=false/\¬q=m /\
   GM ((u.setCell ⟨q,at',none⟩ (.int .u32 W)).setCell ⟨m,5,none⟩ (.bool nb)) m fv bv nv ev { g with words:=g.words.set at' W,bad:=nb } wb lo/\Chg (WS m wb) u ((u.setCell ⟨q,at',none⟩ (.int .u32 W)).setCell ⟨m,5,none⟩ (.bool nb)) /\
   (u.setCell ⟨q,at',none⟩ (.int .u32 W)).cell? ⟨m,5,none⟩=some (.bool g.bad)/\(u.setCell ⟨q,at',none⟩ (.int .u32 W)).frozen? ⟨m,5,none⟩=false:=by
 obtain⟨z,s,a,k⟩:=h.ex;obtain⟨q,cap,rfl,_,y⟩:=a.form (by omega);have f:wb=some q:=by rw[<- k];rfl
 have c:¬q=m:=h.ne q f;have v:Chg (WS m wb) u (u.setCell ⟨q,at',none⟩ (.int .u32 W)):=Chg.setCell (p:=⟨q,at',none⟩) (Chg.refl _ _) (λ_=>.inr f) _;have b:(u.setCell ⟨q,at',none⟩ (.int .u32 W)).heap[m]?=some (.cells #[.slice (some ⟨q,0,none⟩) g.words.length cap,fv,bv,nv,ev,.bool g.bad] 332 (0,0)):=by
  rw[aM _ _ _ _ (by exactλe=>c e.symm)];exact s
 have i:=v.setCell (p:=⟨m,5,none⟩) (λ_=>.inl rfl) (.bool nb);have d:=World.ownsRow.stored a at' (.int .u32 W);have o:∃x,u.cell? ⟨q,at',none⟩=some x:=⟨_,(a.cellAt at' (by omega)).trans (aw (by unfold gf;rw[be];exact ha))⟩;have r:u.frozen? ⟨q,at',none⟩=false:=a.frozenAt at';refine⟨q,cap,f,s,o,r,c,⟨⟨_,aA (j:=5) b _,?_,k⟩,?_,h.tab.chg i ?_,h.l⟩,i,(ae b 5).trans rfl,aD _ m 5 _ _ b⟩
 ·have t:gf (g.words.set at' W)=(gf g.words).set at' (.int .u32 W):=by unfold gf;rw[List.map_set]
  show World.ownsRow _ _ _ _ _ (g.words.set at' W).length (gf (g.words.set at' W));rw[t,List.length_set];exact gX d.1 (p:=⟨m,5,none⟩) (λx l=>by injection l with l;subst l;exact c) _
 ·intro x l
  rcases List.mem_or_eq_of_mem_set l with n|n
  ·exact h.rg x n
  ·subst n;exact hW
 ·intro e
  have w:=h.l;rcases e with e|e
  ·omega
  ·have:=w.2.2 1 e;omega
theorem wD (w:World) (m:Nat) (fv bv nv ev:Value) (g:GS) (wb:Option Nat) (lo:Nat) (h:GM w m fv bv nv ev g wb lo) (hw:g.words.length<=900000000) (at' dst:Nat) (r:Int) (hat:at'<=900000000) (hto:dst<=900000000):
  Calls prog 231 #[pB m,.int .i64 at',.int .i64 r,.int .i64 dst] w (iC m fv bv nv ev (qm at' r dst g) wb lo w):=by
 obtain⟨U,K,b,A⟩:=h.ex;obtain⟨R,T,S,f⟩:=bD b;have N:T=g.words.length:=gS b f;subst N;have P:w.cell? ⟨m,0,none⟩=some (.slice R g.words.length S):=by rw[<- f];exact(ae K 0).trans rfl
 have E:=aa h
 by_cases hlt:at'<g.words.length
 ·have v:decide ((at':Int)<(g.words.length:Int))=true:=by simp;omega
  have s:=aa (zx w w (ai _ _) h.tab 29 r 0 0 ((dst:Int)-at'));obtain⟨W,D⟩:∃W,iS 29 r 0 0 ((dst:Int)-at')=W:=⟨_,rfl⟩;obtain⟨x,O⟩:∃x,jh 29 r 0 0 ((dst:Int)-at')=x:=⟨_,rfl⟩;obtain⟨C,l⟩:∃C,g.bad=C:=⟨_,rfl⟩;have t:=aa (show 0<=W/\W<4294967296 by rw[<- D];exact DA _ _ _ _ _);have B:=aa (show qm at' r dst g={ g with words:=g.words.set at' W,bad:=C||decide (x≠0) } by unfold qm;rw[ax hlt,D,O,l]);have p:=aa l;rw[D,O]at s;clear h K b A f D O l
  go_enter func231,ntmps231
  go_wp2_with fail;refine s.mono ?_;rintro e u ⟨rfl,o⟩;cases C with
  | true =>
   have G:=aa o;obtain⟨q,k,L,d,⟨y,H⟩,J,M,c,a,n,I⟩:=GM.put (E.below o) hlt W t.out true;have Q:u.cell? ⟨m,0,none⟩=some (.slice (some ⟨q,0,none⟩) g.words.length k):=(ae d 0).trans rfl;rw[p.out]at n;have j:=aa c;have i:=aa a;clear o c a d P L;go_wp2_with fail;go_end0;rw[B.out];exact⟨rfl,(Chg.of_below G.out).then i.out,wb,j.out,.inl rfl⟩
  | false =>
   have z:decide (x≠0)=(x != 0):=by
    by_cases h0:x=0
    ·subst h0;rfl
    ·simp[h0]
   have F:=aa (show qm at' r dst g={ g with words:=g.words.set at' W,bad:=(x != 0) } by rw[B.out,Bool.false_or,z]);clear z;have G:=aa o;obtain⟨q,k,L,d,⟨y,H⟩,J,M,c,a,n,I⟩:=GM.put (E.below o) hlt W t.out (x != 0);have Q:u.cell? ⟨m,0,none⟩=some (.slice (some ⟨q,0,none⟩) g.words.length k):=(ae d 0).trans rfl;rw[p.out]at n;have j:=aa c;have i:=aa a;clear o c a d P L;go_wp2_with fail;go_end0;rw[F.out];exact⟨rfl,(Chg.of_below G.out).then i.out,wb,j.out,.inl rfl⟩
 ·have v:decide ((at':Int)<(g.words.length:Int))=false:=by simp;omega
  have B:=aa (show qm at' r dst g=g by unfold qm;rw[ap hlt]);clear h K b A f
  go_enter func231,ntmps231
  go_wp2_with fail;go_end0;rw[B.out];exact⟨rfl,Chg.refl _ _,wb,E.out,.inl rfl⟩
theorem ep.pre (hb:Below w.heap.size w z) (h:ep m fv bv nv ev g wb lo z u):ep m fv bv nv ev g wb lo w u:=by
 obtain⟨c,b,d,a⟩:=h;refine⟨(Chg.of_below hb).then c,b,d,?_⟩;rcases a with a|a
 ·exact .inl a
 ·exact .inr λq hq=>ay hb.size (a q hq)
def JAt (w:World) (fv:Value) (m at':Nat) (r:Int) (lo:Nat):Prop:=∃b1 b2 b3,fv=.func (.func 254) #[] #[pB b1,pB b2,pB b3]/\One w b1 (pB m) 327/\One w b2 (.int .i64 at') 3/\One w b3 (.int .i64 r) 3/\lo<=b1/\lo<=b2/\lo<=b3
theorem JAt.chg (h:JAt w fv m at' r lo) (hc:Chg S w w') (hn:∀b v T,(T=327\/T=3)->One w b v T->¬S b):JAt w' fv m at' r lo:=by
 obtain⟨e,f,g,i,a,c,d,j⟩:=h;exact⟨e,f,g,i,a.chg hc (hn _ _ _ (.inl rfl) a),c.chg hc (hn _ _ _ (.inr rfl) c),d.chg hc (hn _ _ _ (.inr rfl) d),j⟩
theorem JAt.below (h:JAt w fv m at' r lo) (hb:Below w.heap.size w w'):JAt w' fv m at' r lo:=
 h.chg (Chg.of_below (S:=λ_=>False) hb) λ_ _ _ _ _=>id
theorem GM.apart (h:GM w m fv bv nv ev g wb lo) (b:Nat) (v:Value) (T:TypeId) (hT:T=327\/T=3) (ho:One w b v T):¬WS m wb b:=by
 obtain⟨k,i,a,c⟩:=h.ex;rintro(rfl|e)
 ·unfold One at ho
  rw[i]at ho;injection ho with ho;injection ho with _ h9 _;rcases hT with rfl|rfl<;>exact absurd h9 (by decide)
 ·obtain⟨d,j,f⟩:=bG a (c.trans e)
  unfold One at ho;rw[f]at ho;injection ho with ho;injection ho with _ h9 _;rcases hT with rfl|rfl<;>exact absurd h9 (by decide)
def Eg (m:Nat) (fv bv nv ev:Value) (at':Nat) (r:Int) (g':GS) (wb:Option Nat) (lo:Nat) (w:World) (e:Ending) (w':World):Prop:=
 ∃jv,e=.returned jv/\JAt w' jv m at' r w.heap.size/\ep m fv bv nv ev g' wb lo w w'
theorem l8 (w:World) (m:Nat) (fv bv nv ev:Value) (g:GS) (wb:Option Nat) (lo:Nat) (h:GM w m fv bv nv ev g wb lo) (hw:g.words.length<=900000000) (r:Int):
  Calls prog 228 #[pB m,.int .i64 r] w (Eg m fv bv nv ev g.words.length r (fg r g) wb lo w):=by
 generalize f:w.alloc (.cells #[pB m] 327)=w1;generalize l:w1.alloc (.cells #[.int .i64 r] 3)=w2;generalize o:w2.alloc (.cells #[.int .i64 g.words.length] 3)=w3;have I:w1.heap.size=w.heap.size+1:=by rw[<- f];exact ah _ _
 have J:w2.heap.size=w.heap.size+1+1:=by rw[<- l,ah,I]
 have S:w3.heap.size=w.heap.size+1+1+1:=by rw[<- o,ah,J]
 have F:Below w.heap.size w w1:=by rw[<- f];exact az
 have q:Below w1.heap.size w1 w2:=by rw[<- l];exact az
 have s:Below w2.heap.size w2 w3:=by rw[<- o];exact az
 have j:=F.trans (q.mono (by omega));have k:=j.trans (s.mono (by omega));have B:One w3 w.heap.size (pB m) 327:=by
  have d:One w1 w.heap.size (pB m) 327:=by unfold One;rw[<- f];exact af _ _
  exact(d.below q).below s
 have C:One w3 (w.heap.size+1) (.int .i64 r) 3:=by
  have d:One w2 w1.heap.size (.int .i64 r) 3:=by unfold One;rw[<- l];exact af _ _
  rw[I]at d;exact d.below s
 have H:One w3 (w.heap.size+1+1) (.int .i64 g.words.length) 3:=by
  have d:One w3 w2.heap.size (.int .i64 g.words.length) 3:=by unfold One;rw[<- o];exact af _ _
  rw[J]at d;exact d
 obtain⟨R,x,a,z⟩:=h.ex;obtain⟨O,Q,P,p⟩:=bD a;have A:Q=g.words.length:=gS a p;subst A;have y:=ab x;have U:w2.cell? ⟨m,0,none⟩=some (.slice O g.words.length P):=by
  have M:w2.heap[m]?=some (.cells #[R,fv,bv,nv,ev,.bool g.bad] 332 (0,0)):=by rw[j.block m y];exact x
  rw[<- p];exact(ae M 0).trans rfl
 have c1:w2.cell? ⟨w.heap.size,0,none⟩=some (pB m):=by
  have d:One w1 w.heap.size (pB m) 327:=by unfold One;rw[<- f];exact af _ _
  exact(d.below q).c
 have V:=B.c;have W:=C.c;have D:=aa ((ep.start (h.below k)).emit (c:=1) (n:=1) (eG w3 29 r 0 0 1) rfl (by omega) hw);rw[S]at D;have L:=aa (show JAt w3 (.func (.func 254) #[] #[pB w.heap.size,pB (w.heap.size+1+1),pB (w.heap.size+1)]) m g.words.length r w.heap.size from⟨_,_,_,rfl,B,H,C,by omega,by omega,by omega⟩);have K:=aa h;have i:=aa k;have N:∀(fn:Fn) (first cap:Array Value) (w:World),(Instr.makeFunc fn first cap).run prog w=.ok (.func fn first cap) w:=λ_ _ _ _=>rfl;clear h x a z F q s j k B C H
 go_enter func228,ntmps228
 go_wp2_with fail;refine D.mono ?_;rintro e u ⟨rfl,G⟩;have E:=aa G;clear G;go_wp2_with fail;go_ret;have t:=K.below i.out;exact⟨_,rfl,L.chg E.out.1 λb v T hT ho=>t.apart b v T hT ho,E.pre i.out⟩
theorem zo (w:World) (m:Nat) (fv bv nv ev:Value) (g:GS) (wb:Option Nat) (lo:Nat) (h:GM w m fv bv nv ev g wb lo) (hw:g.words.length<=900000000) (jv:Value) (at':Nat) (r:Int) (l2:Nat) (hj:JAt w jv m at' r l2) (hat:at'<=900000000):
  ∃b1 b2 b3,jv=.func (.func 254) #[] #[pB b1,pB b2,pB b3]/\Calls prog 254 #[pB b1,pB b2,pB b3] w (iC m fv bv nv ev (fG at' r g) wb lo w):=by
 obtain⟨b1,b2,b3,rfl,j,k,l,_⟩:=hj;refine⟨b1,b2,b3,rfl,?_⟩;obtain⟨x,f,a,c⟩:=h.ex;obtain⟨p,s,q,b⟩:=bD a;have d:s=g.words.length:=gS a b;subst d;have v:w.cell? ⟨m,0,none⟩=some (.slice p g.words.length q):=by rw[<- b];exact(ae f 0).trans rfl
 have c1:=j.c;have c2:=k.c;have t:=l.c;have n:=aa (wD w.drew m fv bv nv ev g wb lo (h.below (ai _ _).drew) hw at' g.words.length r hat (by omega));clear h f a c j k l
 go_enter func254,ntmps254
 go_wp2_with fail
 go_still_tail 8,(by kernel_rfl)
 change wpList _ _ _ _ _ w.drew;go_wp2_with fail;refine n.mono ?_;rintro e u ⟨rfl,i⟩;have o:=aa (show ep m fv bv nv ev (fG at' r g) wb lo w.drew u from i);clear i;go_wp2_with fail;go_end0;exact⟨rfl,o.pre (ai _ _).drew⟩
theorem rD (w:World) (m:Nat) (fv bv nv ev:Value) (g:GS) (wb:Option Nat) (lo:Nat) (h:GM w m fv bv nv ev g wb lo) (hw:g.words.length<=800000000) (s r:Int):
  Calls prog 283 #[pB m,.int .i64 s,.int .i64 r] w (Eg m fv bv nv ev (g.words.length+1) 6 (ce s r g) wb lo w):=by
 have p:=aa ((ep.start h).emit (c:=1) (n:=1) (eG w s r 0 0 2) rfl (by omega) (by omega));clear h
 go_enter func283,ntmps283
 go_wp2_with fail;refine p.mono ?_;rintro e u ⟨rfl,f,b,i,j⟩;have q:=aa (l8 u m fv bv nv ev _ b lo i (by rw[od];simp;omega) 6);have t:=aa (show(cL [⟨s,r,0,0,2⟩] g).words.length=g.words.length+1 by rw[od];rfl);have d:=aa f;have o:=aa j;clear f i j;go_wp2_with fail;refine q.mono ?_;rintro e v ⟨B,rfl,k,l⟩;have a:=aa k;have x:=aa l;clear k l;go_wp2_with fail;go_ret;refine⟨B,rfl,?_,?_⟩
 ·rw[<- t.out]
  obtain⟨y,z,A,C,D,E,F,G,H,I⟩:=a.out;have:=d.size;exact⟨y,z,A,C,D,E,F,by omega,by omega,by omega⟩
 ·exact(ep.comp d.out o.out ⟨rfl,x.out⟩).2
theorem oL (w:World) (m:Nat) (fv bv nv ev:Value) (g:GS) (wb:Option Nat) (lo:Nat) (h:GM w m fv bv nv ev g wb lo) (hw:g.words.length<=800000000) (r:Int):
  Calls prog 277 #[pB m,.int .i64 r] w (Eg m fv bv nv ev (g.words.length+1) 6 (ce 26 r g) wb lo w):=by
 have d:=aa (rD w m fv bv nv ev g wb lo h hw 26 r);clear h
 go_enter func277,ntmps277
 go_wp2_with fail;refine d.mono ?_;rintro e v ⟨i,rfl,b,c⟩;have a:=aa b;have f:=aa c;clear b c;go_wp2_with fail;go_ret;exact⟨i,rfl,a.out,f.out⟩
theorem qR (w:World) (m:Nat) (fv bv nv ev:Value) (g:GS) (wb:Option Nat) (lo:Nat) (h:GM w m fv bv nv ev g wb lo) (hw:g.words.length<=800000000) (r:Int):
  Calls prog 284 #[pB m,.int .i64 r] w (Eg m fv bv nv ev (g.words.length+1) 6 (ce 25 r g) wb lo w):=by
 have d:=aa (rD w m fv bv nv ev g wb lo h hw 25 r);clear h
 go_enter func284,ntmps284
 go_wp2_with fail;refine d.mono ?_;rintro e v ⟨i,rfl,b,c⟩;have a:=aa b;have f:=aa c;clear b c;go_wp2_with fail;go_ret;exact⟨i,rfl,a.out,f.out⟩
def oT (w:World) (pl:Nat) (word base mn count kept:Nat):Prop:=w.heap[pl]?=some (.cells #[.int .i64 word,.int .i64 base,mP mn,.int .i64 count,.int .i64 kept] 336 (0,0))
def ky (w:World) (lo:Nat) (m:Nat):List Value->List Nat->Prop
 | [],[]=>True
 | v::vs,a::ps=>JAt w v m a 6 lo/\ky w lo m vs ps
 | _,_=>False
structure GC where
 m:Nat
 pl:Nat
 mf:Nat
 mn:Nat
 bt:Nat
 word:Nat
 E:GE
 lo:Nat
structure GI (K:GC) (w:World) (g:GS) (wb eb:Option Nat):Prop where
 ex:∃ev es,GM w K.m (mP K.mf) (.int .i64 K.bt) (pB K.pl) ev g wb K.lo/\w.ownsRow 0 1 1 ev g.ends.length es/\ev.ownBlock=eb/\ky w K.lo K.m es g.ends
 pl:oT w K.pl K.word K.E.base K.mn K.E.count g.kept
 names:∃sz L,bz w K.mn L sz/\∀t,(L t).getD (.int .i64 0)=.int .i64 (K.E.names t)
 funcs:∃sz L,bz w K.mf L sz/\∀t wd bs,K.E.funcs t=some (wd,bs)->∃p mn' c' k',L t=some (pB p)/\K.lo<=p/\(if p=K.pl then wd=K.word/\bs=K.E.base else oT w p wd bs mn' c' k')
 l:K.lo<=K.pl/\K.lo<=K.mn/\K.lo<=K.mf/\∀q,eb=some q->K.lo<=q
 bd:K.E.base<=1000000000000/\K.E.count<=1000000/\g.kept<=2000000/\(∀t,K.E.names t<=2000000000000)/\(∀t p,K.E.funcs t=some p->p.1<=900000000/\p.2<=1000000000000)
def GT (K:GC) (wb eb:Option Nat):Nat->Prop:=λi=>i=K.m\/i=K.pl\/wb=some i\/eb=some i
def gF (u v:World):Prop:=∀b x T,(T=327\/T=3)->One u b x T->One v b x T
theorem gF.refl (u:World):gF u u:=λ_ _ _ _ h=>h
theorem gF.trans {a:World} (h:gF a b) (k:gF b c):gF a c:=λx y T hT ho=>k x y T hT (h x y T hT ho)
theorem gF.of_below (h:Below u.heap.size u v):gF u v:=λ_ _ _ _ ho=>ho.below h
theorem JAt.keeps (h:JAt u fv m a r lo) (k:gF u v):JAt v fv m a r lo:=by
 obtain⟨b,c,d,e,f,g,i,j⟩:=h;exact⟨b,c,d,e,k _ _ _ (.inl rfl) f,k _ _ _ (.inr rfl) g,k _ _ _ (.inr rfl) i,j⟩
theorem JAt.low {lo':Nat} (h:JAt u fv m a r lo) (hl:lo'<=lo):JAt u fv m a r lo':=by
 obtain⟨b,c,d,e,f,g,i,j,k,l⟩:=h;exact⟨b,c,d,e,f,g,i,by omega,by omega,by omega⟩
theorem ky.keeps (k:gF u v):∀{vs:List Value} {ps:List Nat},ky u lo m vs ps->ky v lo m vs ps
 | [],[],_=>trivial
 | x::vs,a::ps,h=>⟨h.1.keeps k,ky.keeps k h.2⟩
 | [],_::_,h=>h.elim
 | _::_,[],h=>h.elim
variable {K:GC}
theorem eU {b:Nat} {x:Array Value} {T U:TypeId} {f1:Nat×Nat} (ha:w.heap[a]?=some (.cells x T f1)) (hb:w.heap[b]?=some (.cells y U f2)) (hT:T≠U):¬a=b:=by
 intro e;subst e;rw[ha]at hb;injection hb with hb;injection hb with _ h9 _;exact hT h9
theorem jd {b sz:Nat} {L:Tx->Option Value} {U:TypeId} (ha:bz w a L sz) (hb:w.heap[b]?=some (.cells y U f2)):¬a=b:=by
 intro e;subst e;obtain⟨D,⟨d,c,h,_⟩,_⟩:=ha;rw[h]at hb;injection hb with hb;cases hb
theorem GI.ne (h:GI K w g wb eb):(∀b x T,T≠332->T≠336->T≠40->T≠1->(∃fr,w.heap[b]?=some (.cells x T fr))->¬GT K wb eb b)/\(∀b sz L,bz w b L sz->¬GT K wb eb b) /\
  (¬K.pl=K.m)/\(∀q,wb=some q->¬q=K.pl)/\(∀q,eb=some q->¬q=K.m/\¬q=K.pl/\wb≠some q)/\(∀i,i<K.lo->¬GT K wb eb i)/\(∀p x fr,w.heap[p]?=some (.cells x 336 fr)->¬p=K.pl->¬GT K wb eb p):=by
 obtain⟨A,z,u,f,n,_⟩:=h.ex;obtain⟨B,o,l,k⟩:=u.ex;have j:=h.pl;unfold oT at j;have y:=h.l;have r:=u.l;refine⟨λb x T t1 t2 t3 t4 ⟨fr,hb⟩ hs=>?_,λb sz L hb hs=>?_,eU j o (by decide),λq hq=>?_,λq hq=>?_,λi hi hs=>?_,λp x fr hp hn hs=>?_⟩
 ·rcases hs with e|e|e|e
  ·exact eU hb o t1 e
  ·exact eU hb j t2 e
  ·obtain⟨c,d,a⟩:=bG l (k.trans e);exact eU hb a t3 rfl
  ·obtain⟨c,d,a⟩:=bG f (n.trans e);exact eU hb a t4 rfl
 ·rcases hs with e|e|e|e
  ·exact jd hb o e
  ·exact jd hb j e
  ·obtain⟨c,d,a⟩:=bG l (k.trans e);exact jd hb a rfl
  ·obtain⟨c,d,a⟩:=bG f (n.trans e);exact jd hb a rfl
 ·obtain⟨c,d,a⟩:=bG l (k.trans hq);exact eU a j (by decide)
 ·obtain⟨c,d,a⟩:=bG f (n.trans hq)
  refine⟨eU a o (by decide),eU a j (by decide),λe=>?_⟩;obtain⟨t,v,s⟩:=bG l (k.trans e);exact eU a s (by decide) rfl
 ·rcases hs with e|e|e|e
  ·omega
  ·omega
  ·have:=r.2.2 i e;omega
  ·have:=y.2.2.2 i e;omega
 ·rcases hs with e|e|e|e
  ·exact eU hp o (by decide) e
  ·exact hn e
  ·obtain⟨c,d,a⟩:=bG l (k.trans e);exact eU hp a (by decide) rfl
  ·obtain⟨c,d,a⟩:=bG f (n.trans e);exact eU hp a (by decide) rfl
theorem GI.keeps (h:GI K w g wb eb) (hc:Chg (GT K wb eb) w w'):gF w w':=λb x T hT ho=>by
 refine ho.chg hc (h.ne.1 b #[x] T ?_ ?_ ?_ ?_ ⟨_,ho⟩)<;>(rcases hT with rfl|rfl<;>decide)
def GR (K:GC) (g:GS) (wb eb:Option Nat) (w w':World):Prop:=
 Chg (GT K wb eb) w w'/\∃wb' eb',GI K w' g wb' eb'/\(wb'=wb\/∀q,wb'=some q->w.heap.size<=q)/\(eb'=eb\/∀q,eb'=some q->w.heap.size<=q)
theorem GR.start (h:GI K w g wb eb):GR K g wb eb w w:=⟨Chg.refl _ _,wb,eb,h,.inl rfl,.inl rfl⟩
theorem GT.then {a:World} {eb':Option Nat} (h:Chg (GT K wb eb) a b) (h2:Chg (GT K wb' eb') b c) (hu:wb'=wb\/∀q,wb'=some q->a.heap.size<=q) (hv:eb'=eb\/∀q,eb'=some q->a.heap.size<=q):Chg (GT K wb eb) a c:=by
 refine h.trans h2 λi hi d=>?_;rcases d with d|d|d|d
 ·exact .inl d
 ·exact .inr (.inl d)
 ·rcases hu with rfl|hu
  ·exact .inr (.inr (.inl d))
  ·have:=hu i d;omega
 ·rcases hv with rfl|hv
  ·exact .inr (.inr (.inr d))
  ·have:=hv i d;omega
theorem GR.trans (h:GR K g wb eb w u) (hc:∀wb' eb',GI K u g wb' eb'->GR K g' wb' eb' u v):GR K g' wb eb w v:=by
 obtain⟨b,wb',eb',j,f,i⟩:=h;obtain⟨k,e,a,l,c,d⟩:=hc wb' eb' j;refine⟨GT.then b k f i,e,a,l,?_,?_⟩
 ·rcases c with rfl|c
  ·exact f
  ·exact .inr λq hq=>ay b.size (c q hq)
 ·rcases d with rfl|d
  ·exact i
  ·exact .inr λq hq=>ay b.size (d q hq)
def pA (K:GC) (g':GS) (wb eb:Option Nat) (w:World) (e:Ending) (w':World):Prop:=e=.returned (.tuple #[])/\GR K g' wb eb w w'
theorem GR.call (h:GR K g wb eb w u) (hc:∀wb' eb',GI K u g wb' eb'->Calls prog N args u (pA K g' wb' eb' u)):Calls prog N args u λe v=>e=.returned (.tuple #[])/\GR K g' wb eb w v/\gF u v:=by
 obtain⟨b,wb',eb',i,j,k⟩:=h;refine(hc wb' eb' i).mono ?_;rintro e v ⟨rfl,q⟩;refine⟨rfl,?_,i.keeps q.1⟩;obtain⟨l,f,a,m,c,d⟩:=q;refine⟨GT.then b l j k,f,a,m,?_,?_⟩
 ·rcases c with rfl|c
  ·exact j
  ·exact .inr λq hq=>ay b.size (c q hq)
 ·rcases d with rfl|d
  ·exact k
  ·exact .inr λq hq=>ay b.size (d q hq)
theorem GI.of_words (h:GI K u g wb eb) (hk:g'.kept=g.kept) (he:g'.ends=g.ends) (hc:∀ev,GM u K.m (mP K.mf) (.int .i64 K.bt) (pB K.pl) ev g wb K.lo->ep K.m (mP K.mf) (.int .i64 K.bt) (pB K.pl) ev g' wb K.lo u v):GR K g' wb eb u v:=by
 obtain⟨ev,C,D,n,k,x⟩:=h.ex;obtain⟨r,A,F,G⟩:=hc ev D;have c:=h.ne;have j:Chg (GT K wb eb) u v:=r.mono λi _ l=>by
  rcases l with l|l
  ·exact .inl l
  ·exact .inr (.inr (.inl l))
 have o:∀i,¬i=K.m->wb≠some i->¬WS K.m wb i:=λi s w hs=>hs.elim s w;have y:¬WS K.m wb K.pl:=o _ c.2.2.1 λe=>c.2.2.2.1 _ e rfl;have d:∀b sz L,bz u b L sz->¬WS K.m wb b:=λb sz L hb hs=>c.2.1 b sz L hb (hs.elim .inl λe=>.inr (.inr (.inl e)));refine⟨j,A,eb,⟨⟨ev,C,F,?_,k,?_⟩,?_,?_,?_,h.l,?_⟩,G,.inl rfl⟩
 ·rw[he]
  refine aY n r λq hq=>?_;have:=c.2.2.2.2.1 q (k.symm.trans hq);exact o q this.1 this.2.2
 ·rw[he];exact x.keeps (h.keeps j)
 ·have:=h.pl
  unfold oT at this ⊢;rw[hk,r.block _ (ab this) y];exact this
 ·obtain⟨sz,L,a,b⟩:=h.names
  exact⟨sz,L,a.chg r (d _ _ _ a),b⟩
 ·obtain⟨sz,L,a,b⟩:=h.funcs
  refine⟨sz,L,a.chg r (d _ _ _ a),λt wd bs ht=>?_⟩;obtain⟨p,z,B,E,s,w,f⟩:=b t wd bs ht;refine⟨p,z,B,E,s,w,?_⟩
  by_cases hp:p=K.pl
  ·rw[ax hp]at f ⊢;exact f
  ·rw[ap hp]at f ⊢
   unfold oT at f ⊢;rw[j.block _ (ab f) (c.2.2.2.2.2.2 p _ _ f hp)];exact f
 ·rw[hk];exact h.bd
theorem GR.words (h:GR K g wb eb w u) (hk:g'.kept=g.kept) (he:g'.ends=g.ends) (hc:∀ev wb',GM u K.m (mP K.mf) (.int .i64 K.bt) (pB K.pl) ev g wb' K.lo->Calls prog N args u (iC K.m (mP K.mf) (.int .i64 K.bt) (pB K.pl) ev g' wb' K.lo u)):Calls prog N args u λe v=>e=.returned (.tuple #[])/\GR K g' wb eb w v/\gF u v:=by
 refine h.call λwb' eb' hi=>?_;obtain⟨ev,k,c,d,f,i⟩:=hi.ex;refine(hc ev wb' c).mono ?_;rintro e v ⟨rfl,q⟩;refine⟨rfl,hi.of_words hk he λev2 hg2=>?_⟩;have:ev2=ev:=by
  obtain⟨l,a,_⟩:=c.ex;obtain⟨j,b,_⟩:=hg2.ex;rw[a]at b;injection b with b;injection b with b _ _;simp only[iF,fN]at b;exact b.2.2.2.2.1.symm
 subst this;exact q
theorem GR.jump (h:GR K g wb eb w u) (hk:g'.kept=g.kept) (he:g'.ends=g.ends) (hc:∀ev wb',GM u K.m (mP K.mf) (.int .i64 K.bt) (pB K.pl) ev g wb' K.lo->Calls prog N args u (Eg K.m (mP K.mf) (.int .i64 K.bt) (pB K.pl) ev a r g' wb' K.lo u)):Calls prog N args u λe v=>∃jv,e=.returned jv/\JAt v jv K.m a r u.heap.size/\GR K g' wb eb w v/\gF u v:=by
 obtain⟨f,wb',c,i,n,o⟩:=h;obtain⟨ev,D,s,t,x,y⟩:=i.ex;refine(hc ev wb' s).mono ?_;rintro e v ⟨jv,rfl,z,q⟩;have p:GR K g' wb' c u v:=i.of_words hk he λev2 hg2=>by
  have:ev2=ev:=by
   obtain⟨E,a,_⟩:=s.ex;obtain⟨C,b,_⟩:=hg2.ex;rw[a]at b;injection b with b;injection b with b _ _;simp only[iF,fN]at b;exact b.2.2.2.2.1.symm
  subst this;exact q
 refine⟨jv,rfl,z,?_,i.keeps p.1⟩;obtain⟨A,l,d,B,j,k⟩:=p;refine⟨GT.then f A n o,l,d,B,?_,?_⟩
 ·rcases j with rfl|j
  ·exact n
  ·exact .inr λq hq=>ay f.size (j q hq)
 ·rcases k with rfl|k
  ·exact o
  ·exact .inr λq hq=>ay f.size (k q hq)
variable {K:GC}
theorem GI.below (h:GI K u g wb eb) (hb:Below u.heap.size u v):GR K g wb eb u v:=h.of_words rfl rfl λev hg=>(ep.start hg).below hb
theorem GR.below (h:GR K g wb eb w u) (hb:Below u.heap.size u v):GR K g wb eb w v:=h.trans λwb' eb' hi=>hi.below hb
theorem GI.setKept (h:GI K u g wb eb) (n:Nat) (hn:n<=2000000):GR K { g with kept:=n } wb eb u (u.setCell ⟨K.pl,4,none⟩ (.int .i64 n)):=by
 obtain⟨x,w,s,m,l,o⟩:=h.ex;have f:=h.ne;have k:Chg (GT K wb eb) u (u.setCell ⟨K.pl,4,none⟩ (.int .i64 n)):=Chg.setCell (p:=⟨K.pl,4,none⟩) (Chg.refl _ _) (λ_=>.inr (.inl rfl)) _;have c:Chg (·=K.pl) u (u.setCell ⟨K.pl,4,none⟩ (.int .i64 n)):=Chg.setCell (S:=(·=K.pl)) (p:=⟨K.pl,4,none⟩) (Chg.refl _ _) (λ_=>rfl) _;have C:=h.l;have A:=s.l;have d:∀b sz L,bz u b L sz->¬b=K.pl:=λb sz L hb=>jd hb h.pl;refine⟨k,wb,eb,⟨⟨x,w,?_,?_,l,?_⟩,?_,?_,?_,h.l,?_⟩,.inl rfl,.inl rfl⟩
 ·have:=s.chg c (λe=>f.2.2.1 e.symm) (λq hq=>f.2.2.2.1 q hq) (by omega)
  exact⟨this.ex,this.rg,this.tab,this.l⟩
 ·exact aY m c λq hq=>(f.2.2.2.2.1 q (l.symm.trans hq)).2.1
 ·exact o.keeps (h.keeps k)
 ·exact aA (j:=4) h.pl _
 ·obtain⟨sz,L,a,b⟩:=h.names
  exact⟨sz,L,a.chg c (d _ _ _ a),b⟩
 ·obtain⟨sz,L,a,b⟩:=h.funcs
  refine⟨sz,L,a.chg c (d _ _ _ a),λt wd bs ht=>?_⟩;obtain⟨p,r,v,B,y,z,i⟩:=b t wd bs ht;refine⟨p,r,v,B,y,z,?_⟩
  by_cases hp:p=K.pl
  ·rw[ax hp]at i ⊢;exact i
  ·rw[ap hp]at i ⊢
   unfold oT at i ⊢;rw[c.block _ (ab i) hp];exact i
 ·exact⟨h.bd.1,h.bd.2.1,hn,h.bd.2.2.2.1,h.bd.2.2.2.2⟩
theorem FA (u:World) (g:GS) (wb eb:Option Nat) (h:GI K u g wb eb) (n:Nat) (hn:n<=1000000):
  Calls prog 275 #[pB K.m,.int .i64 n] u λe v=>e=.returned (.int .i64 (K.E.slot n))/\GR K (rq n g) wb eb u v:=by
 obtain⟨J,U,D,s,x,y⟩:=h.ex;obtain⟨Q,w,_⟩:=D.ex;obtain⟨m,i⟩:∃m,K.m=m:=⟨_,rfl⟩;obtain⟨b,f⟩:∃b,K.pl=b:=⟨_,rfl⟩;have a:=h.pl;unfold oT at a;rw[f]at a;rw[i,f]at w;rw[i];have L:=h.bd;obtain⟨k,A⟩:∃k,g.kept=k:=⟨_,rfl⟩;obtain⟨o,p⟩:∃o,K.E.base=o:=⟨_,rfl⟩;obtain⟨c,q⟩:∃c,K.E.count=c:=⟨_,rfl⟩;rw[A,p,q]at a;have B:k<=2000000:=by omega
 have M:o<=1000000000000:=by omega
 have N:c<=1000000:=by omega
 have I:u.drew.cell? ⟨m,3,none⟩=some (pB b):=(ae w 3).trans rfl;have O:u.drew.cell? ⟨b,4,none⟩=some (.int .i64 k):=(ae a 4).trans rfl;have P:u.drew.frozen? ⟨b,4,none⟩=false:=aD u b 4 _ _ a;have C:¬b=m:=by rw[<- i,<- f];exact h.ne.2.2.1
 go_enter func275,ntmps275
 go_wp2_with fail
 go_still_tail 16,(by kernel_rfl)
 change wpList _ _ _ _ _ u.drew;go_wp2_with fail;have d:(max (k:Int) ((n:Int)+1))=((max k (n+1):Nat):Int):=by omega
 rw[d];have t:=h.setKept (max k (n+1)) (by omega);rw[f]at t;have r:(u.setCell ⟨b,4,none⟩ (.int .i64 ((max k (n+1):Nat):Int))).heap[m]?=some (.cells #[Q,mP K.mf,.int .i64 K.bt,pB b,J,.bool g.bad] 332 (0,0)):=by
  rw[aM _ _ _ _ (by exactλe=>C e.symm)];exact w
 have l:(u.setCell ⟨b,4,none⟩ (.int .i64 ((max k (n+1):Nat):Int))).heap[b]?=some (.cells #[.int .i64 K.word,.int .i64 o,mP K.mn,.int .i64 c,.int .i64 ((max k (n+1):Nat):Int)] 336 (0,0)):=aA (j:=4) a _;generalize u.setCell ⟨b,4,none⟩ (.int .i64 ((max k (n+1):Nat):Int))=z at t r l;have S:z.drew.drew.cell? ⟨m,3,none⟩=some (pB b):=(ae r 3).trans rfl;have R:z.drew.drew.cell? ⟨b,1,none⟩=some (.int .i64 o):=(ae l 1).trans rfl;have T:z.drew.drew.cell? ⟨b,3,none⟩=some (.int .i64 c):=(ae l 3).trans rfl;have V:IntKind.i64.wrap (1+(c:Int))=1+(c:Int):=lf _ (by omega);have W:IntKind.i64.wrap (1+(c:Int)+(n:Int))=1+(c:Int)+(n:Int):=lf _ (by omega);have X:IntKind.i64.wrap (16*(1+(c:Int)+(n:Int)))=16*(1+(c:Int)+(n:Int)):=lf _ (by omega);have Y:IntKind.i64.wrap ((o:Int)+16*(1+(c:Int)+(n:Int)))=(o:Int)+16*(1+(c:Int)+(n:Int)):=lf _ (by omega);have G:=aa t;have H:=aa (show(o:Int)+16*(1+(c:Int)+(n:Int))=(K.E.slot n:Int) by unfold GE.slot;rw[p,q];omega);have F:=aa A;clear d t r l I O P w a h D s y x i f A p q L B;refine wp_region_still_lit (by kernel_rfl) (by kernel_rfl) ?_;change wpStill _ _ z.drew.drew _ _ _
 repeat still_step
 refine wpStill_nil ?_;change Exit.then _ _ _ _ z.drew.drew;go_wp2_with fail;go_ret;refine⟨by rw[H.out];rfl,?_⟩;have e:rq n g={ g with kept:=max k (n+1) }:=by unfold rq;rw[F.out]
 rw[e];refine G.trans λwb' eb' hi=>?_;exact hi.below ((ai _ _).drew).drew
end Go.Proofs.YtbeaaimcpkogcaaGreatDoor
