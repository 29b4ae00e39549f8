/- Lemmas on the way to the claim. -/
import Derived.Test.YtbeaaimcpkogcaaGreatDoorM51
import Derived.Test.YtbeaaimcpkogcaaGreatDoorM56
set_option linter.unusedSimpArgs false
set_option linter.unusedVariables false
set_option maxHeartbeats 8000000
set_option maxRecDepth 100000
namespace Go.Proofs.YtbeaaimcpkogcaaGreatDoor
open Go.Proofs.Tryz Go.RowKit
theorem E6 {w:World} {a:Option Addr} {len cap:Nat} {zs:List Int} (h:Gi w a len cap zs) (k:Nat) (hk:k<=len):
  (gf (zs.take k)).length=k*1/\(∀j u,(gf (zs.take k))[j]?=some u->∃a0,a=some a0/\w.cell? (a0.add j)=some u)/\(∀x∈zs.take k,0<=x/\x<4294967296)/\(zs.take k).length=k/\len<=cap:=by
 rcases h with⟨rfl,rfl,rfl,rfl⟩|⟨x,rfl,e,i,l,f,g⟩
 ·obtain rfl:k=0:=by omega
  refine⟨rfl,λj u hj=>?_,λx hx=>?_,rfl,ag _⟩
  ·simp[gf]at hj
  ·simp at hx
 ·have d:(zs.take k).length=k:=by rw[bN];omega
  refine⟨by unfold gf;rw[be,d];omega,λj u hj=>⟨x,rfl,?_⟩,λz b=>g z (List.mem_of_mem_take b),d,e⟩;unfold gf at hj;rw[aG]at hj;obtain⟨z,b,rfl⟩:=Option.map_eq_some_iff.1 hj;have c:j<k:=by have:=(aE.1 b).1;omega
  rw[List.getElem?_take,ax c]at b;exact f j z b
theorem I8 (x:Int):le4 (x%4294967296)=le4 x:=by
 unfold le4 b8;rw[show x%4294967296%256=x%256 by omega,show x%4294967296/256%256=x/256%256 by omega,show x%4294967296/65536%256=x/65536%256 by omega,show x%4294967296/16777216%256=x/16777216%256 by omega]
theorem FH (p st:Nat) (ws:List Int):mv p st (ws.map (·%4294967296))=mv p st ws:=by
 have h:∀l:List Int,(l.map (·%4294967296)).flatMap le4=l.flatMap le4:=λl=>by
  induction l with
  | nil=>rfl
  | cons a l ih=>rw[dX,gO,gO,ih,I8]
 unfold mv;rw[h,be]
theorem Fj {p:Nat} {q:Option (List Fun)} {r:List Int×Nat} (h:q.bind (j9 p)=some r):(1<=r.1.length/\r.1.length<=4096/\r.2%256=0/\256<=r.2/\r.2<=4096)/\lh r.1.length r.2 p=true:=by
 obtain⟨c,_,h⟩:=Option.bind_eq_some_iff.1 h;unfold j9 at h;obtain⟨b,_,h⟩:=Option.bind_eq_some_iff.1 h;obtain⟨d,a,h⟩:=Option.bind_eq_some_iff.1 h;split at h
 ·rename_i h3
  injection h with h;subst h;exact⟨CO a,h3⟩
 ·cases h
theorem Be (w:World) (l:Tx) (a:Option Addr) (len cap:Nat) (zs:List Int) (hz:Gi w a len cap zs) (hL:Lay w) (hpow:Pow w):
  Calls prog 4 #[.string ⟨l.toArray⟩,.slice a len cap] w λe w'=>Below w.heap.size w w'/\e=.returned (.bool true):=by
 have aI:(⟨l.toArray⟩:ByteArray).size=l.length:=oB l;obtain⟨l',aB,aj⟩:∃l':Tx,(⟨l.toArray⟩:ByteArray).extract 0 (min (l.length:Int) 2000).toNat=⟨l'.toArray⟩/\l'.length<=2000:=
  ⟨_,kM l _,by rw[bN];omega⟩
 obtain⟨k,hk⟩:∃k,(min (len:Int) 200).toNat=k:=⟨_,rfl⟩;have al:k<=len/\k<=200:=by omega
 obtain⟨t1,t2,t3,t4,t5⟩:=E6 hz k al.1;have HL:=aa hL;have H:=aa hpow;have ar:=aa aj;have HT:=aa (show(∀j u,(gf (zs.take k))[j]?=some u->∃Z,a=some Z/\(w.alloc (.cells #[] 40)).cell? (Z.add j)=some u) fromλj u M=>by
  obtain⟨Z,e,h⟩:=t2 j u M;exact⟨Z,e,(dW _ _ _ (ry _ _ h)).trans h⟩)
 have D:=aa t3;have G:=aa hk;obtain⟨i0,hi,an,ao,ap⟩:=cX C8;have p:(w.alloc (.cells #[] 40)).ownsRow w.heap.size 40 1 (.slice (some ⟨w.heap.size,0,none⟩) 0 0) 0 []:=⟨rfl,.inr ⟨w.heap.size,0,#[],rfl,ag _,af _ _,ag _,by unfold maxLen;omega,rfl,rfl⟩⟩;have ad:Hold w (w.alloc (.cells #[] 40)) (.slice (some ⟨w.heap.size,0,none⟩) 0 0) []:=⟨az,p,(λe=>by cases e),(λx f=>by cases f)⟩;have a4:=aa ad;have a7:=aa p;have ay:w.heap.size<=(w.alloc (.cells #[] 40)).heap.size:=by rw[ah];omega
 clear hL hpow aj hz t2 t3 p ad hk
 go_enter func4,ntmps4
 go_wp2_with (at_builtin;refine kX (by rfl) _ _ 34 (by rfl) w.heap.size 40 i0 (.int .u32 0) 1 4 underlying34 hi an ao ap rfl (by decide) _ 0 [] (by rfl) a7.out a (min (len:Int) 200).toNat cap (gf (zs.take k)) (by rfl) (by rw[G.out];exact t1) HT.out (yt _) (by rw[G.out];unfold maxLen;omega) (by rw[G.out];omega) ay ?_;intro v1 w1 b c E;rw[G.out]at b;have B:=aa (a4.grow (news:=zs.take k) c (by rw[t4];exact b) E D.out);clear b c E)
 rw[bh]at B;generalize zs.take k=X at *;have t:=aa (show X.length<=200 by omega);clear a4 a7 HT D G t1 t4 t5 al;obtain⟨g1,c1,rfl⟩:=B.shape;have HC:=aa (pU w1 l' 64 (by omega) (by omega) (HL.below B.bel) (by have:=ar.out;omega));go_wp2_with fail
 try rw[aB]
 refine HC.mono ?_;rintro e w2 ⟨hb,q,hq,P⟩;have g:=aa (B.below hb);clear hb hq HC B;unfold jD at P;cases hok:q.bind (j9 64)
 case' none =>
  rw[hok]at P;obtain⟨f1,rfl⟩:=P;clear hok;go_wp2_with fail;have m:=aa (show X.length<=1000 by have:=t.out;omega);clear t;generalize w2=z at g ⊢;generalize g1=I at g ⊢;generalize c1=cz at g ⊢;generalize X=L at g m ⊢;have HZ:=g;clear g
 case' some r =>
  rw[hok]at P;have K:e=.returned (.tuple #[.string ⟨(mv 64 r.2 r.1).toArray⟩,.nilIface]):=P;obtain⟨⟨p1,p2,p3,p4,p5⟩,p6⟩:=Fj hok;rw[<- FH]at K;obtain⟨Y,hY⟩:∃Y,r.1.map (·%4294967296)=Y:=⟨_,rfl⟩;have a1:∀x∈Y,0<=x/\x<4294967296:=λx f=>by
   rw[<- hY]at f;obtain⟨y,_,rfl⟩:=bM.1 f;omega
  have ae:r.1.length=Y.length:=by rw[<- hY,be]
  rw[hY]at K;rw[ae]at p1 p2 p6;obtain⟨T,hT⟩:∃T,mv 64 r.2 Y=T:=⟨_,rfl⟩;rw[hT]at K;have HD:=aa (sb w2 64 r.2 Y T (hT▸GH 64 r.2 Y (by omega) p5 p2 a1) p1 p2 (by omega) (by omega) p3 p4 p5 p6);have au:=aa a1;clear P hok hY a1 ae hT p3 p4 p5 p6;subst K;generalize r.2=st at HD;go_wp2_with fail;refine HD.mono ?_;rintro e w3 ⟨hb,v,b2,c2,rfl,hw⟩;have R:=aa (g.below hb);obtain⟨g2,c3,rfl,N,_⟩:=hw.ex;have aF:=hw.le _ _ _ rfl;unfold ig;have a6:=aa N;clear hb g HD hw N;obtain⟨A,ak⟩:∃A,(min (Y.length:Int) 600).toNat=A:=⟨_,rfl⟩;have aL:A<=Y.length/\A<=600:=by omega
  have am:(Y.take A).length=A:=by rw[bN];omega
  have G:=aa ak;have aM:decide (min (Y.length:Int) 600<=(c3:Int))=true:=by simp;omega
  have HT:Hid (∀o:Obj,∀j u,(gf (Y.take A))[j]?=some u->∃Z,(some ⟨g2,0,none⟩:Option Addr)=some Z/\(w3.alloc o).cell? (Z.add j)=some u):=λo j u M=>by
   refine⟨_,rfl,?_⟩;unfold gf at M;rw[aG]at M;obtain⟨x,f,rfl⟩:=Option.map_eq_some_iff.1 M;have aA:j<A:=by have:=(aE.1 f).1;omega
   rw[List.getElem?_take,ax aA]at f;have hc:=a6.out j x f;rw[cA]at hc;have ai:(⟨g2,0,none⟩:Addr).add j=⟨g2,j,none⟩:=by unfold Addr.add;split<;>simp_all
   rw[ai];exact(dW _ _ _ (aH hc)).trans hc
  have av:=aa (show∀x∈Y.take A,0<=x/\x<4294967296 fromλx f=>au.out x (List.mem_of_mem_take f));have W:=aa am;clear ak am p1 p2
  go_wp2_with (at_builtin;refine kX (by rfl) _ _ 34 (by rfl) w.heap.size 40 i0 (.int .u32 0) 1 4 underlying34 hi an ao ap rfl (by decide) _ X.length (gf X) (by rfl) (R.own.alloc _) (some ⟨g2,0,none⟩) (min (Y.length:Int) 600).toNat c3 (gf (Y.take A)) (by rfl) (by rw[G.out];unfold gf;rw[be,W.out];omega) (HT.out _) (yt _) (by rw[G.out];have:=t.out;unfold maxLen;omega) (by rw[G.out];have:=t.out;omega) (by have:=R.bel.size;rw[ah];omega) ?_;intro v1 w4 b c E;rw[G.out]at b;have C:=aa ((R.alloc _).grow (news:=Y.take A) c (by rw[W.out];exact b) E av.out);clear b c E)
  generalize w4=z at C ⊢;obtain⟨I,cz,rfl⟩:=C.shape;have m:=aa (show(X++Y.take A).length<=1000 by have:=t.out;have:=W.out;rw[ac];omega);generalize X++Y.take A=L at C m ⊢;have HZ:=C;clear C t
 all_goals
  go_loopw [10] (λs10 wr=>∃j:Nat,s10=.int .i64 j/\j<=L.length/\Hid (Hold w wr (.slice (some ⟨I,0,none⟩) L.length cz) L)) (λs10 _=>L.length-(intOf s10).toNat)
  case atStart=>exact⟨0,rfl,aV _,HZ⟩
  case round =>
   clear HZ
   rename World=>wr
   obtain⟨j,rfl,M,d⟩:=hrel
   by_cases hlt:j<L.length
   ·obtain⟨x,f⟩:∃x,L[j]?=some x:=⟨_,aw hlt⟩
    have s:decide ((j:Int)<(L.length:Int))=true:=by simp;omega
    have F:=d.out.rng x (aJ f);have n:wr.cell? ⟨I,j,none⟩=some (.int .u32 x):=by
     have:=d.out.num.1 j x f;rw[cA]at this;exact this
    have HC:=aa (oD wr x F.1 F.2 (HL.tab.below d.out.bel) (eE H.out d.out.bel));have U:=aa λu (O:Below w.heap.size w u)=>Fu u x F.1 F.2 (HL.tab.below O) (eE H.out O);have HX:=aa f;have D:=d;clear d f F;generalize dP x=T at HC U;go_wp2_with fail;refine HC.mono ?_;rintro e q ⟨rfl,hq⟩;have V:=aa (D.below hq);have a5:=aa (U.out q V.bel);clear hq HC U D n;go_wp2_with fail;refine a5.mono ?_;rintro e y ⟨rfl,hy⟩;have HY:=aa (V.below hy);have n:y.cell? ⟨I,j,none⟩=some (.int .u32 x):=by
     have:=HY.num.1 j x HX.out;rw[cA]at this;exact this
    clear hy a5 V;go_wp2_with fail;have i:=aa (fR ((j:Int)+1) (by have:=m.out;omega));exact⟨⟨j+1,by rw[i.out];simp,hlt,HY⟩,by rw[i.out];simp[intOf];omega⟩
   ·have s:decide ((j:Int)<(L.length:Int))=false:=by simp;omega
    have HD:=aa (Jq wr I cz L d.out.num.1 d.out.num.2 d.out.rng m.out (HL.tab.below d.out.bel) (eE H.out d.out.bel));have HA:=aa λu (O:Below w.heap.size w u)=>JF u L d.out.rng m.out (HL.below O) (eE H.out O);have D:=d;clear d;go_wp2_with fail;refine HD.mono ?_;rintro e q ⟨rfl,hq⟩;have V:=aa (D.below hq);have a3:=aa (HA.out q V.bel);clear hq HD HA D;go_wp2_with fail;refine a3.mono ?_;rintro e y ⟨hy,v2,rfl,J⟩;have HY:=aa (V.below hy);obtain⟨a2,m2,c2,rfl⟩:=cc J;have aC:=sR J rfl;subst aC;have a8:=aa J;clear hy J a3 V;go_wp2_with fail;have ab:=aa (show Hold w y (.slice (some ⟨I,0,none⟩) L.length cz) L/\y.ownsRow q.heap.size 40 1 (.slice a2 L.length c2) L.length (gf L) from⟨HY.out,a8.out⟩);clear HY a8 s hlt M
    go_loopw [14] (λs14 wr=>∃j:Nat,s14=.int .i64 j/\j<=L.length/\Hid (Hold w wr (.slice (some ⟨I,0,none⟩) L.length cz) L/\wr.ownsRow q.heap.size 40 1 (.slice a2 L.length c2) L.length (gf L))) (λs14 _=>L.length-(intOf s14).toNat)
    case atStart=>exact⟨0,rfl,aV _,ab⟩
    case round =>
     clear ab
     rename World=>v
     obtain⟨j,rfl,M,d⟩:=hrel
     by_cases hlt:j<L.length
     ·obtain⟨x,f⟩:∃x,L[j]?=some x:=⟨_,aw hlt⟩
      have s:decide ((j:Int)<(L.length:Int))=true:=by simp;omega
      have n:v.cell? ⟨I,j,none⟩=some (.int .u32 x):=by
       have:=d.out.1.num.1 j x f;rw[cA]at this;exact this
      have ho:=d.out.2;rcases ho.2 with⟨_,h0⟩|⟨g3,aD,aK,P,_⟩
      ·omega
      injection P with hv1 hv2 hv3;subst hv1 hv3;have aq:v.cell? ⟨g3,j,none⟩=some (.int .u32 x):=by
       rw[ho.cellAt j (by omega)];unfold gf;rw[aG,f];rfl
      have D:=d;have Q:wrap64 ((j:Int)+1)=(j:Int)+1:=fR _ (by have:=m.out;omega);have i:=aa Q;clear d ho f Q;go_wp2_with fail
      go_quiet (fail)
      go_wp2_with fail;have a9:=aa (show Hold w (v.drewN nq) (.slice (some ⟨I,0,none⟩) L.length cz) L/\(v.drewN nq).ownsRow q.heap.size 40 1 (.slice (some ⟨g3,0,none⟩) L.length c2) L.length (gf L) from⟨D.out.1.below (jN v nq),du D.out.2 (Chg.of_below (S:=λ_=>False) (jN v nq)) λ_ _=>id⟩);exact⟨⟨j+1,by rw[i.out];simp,hlt,a9⟩,by rw[i.out];simp[intOf];omega⟩
     ·have s:decide ((j:Int)<(L.length:Int))=false:=by simp;omega
      have HM:=aa (uP v (HL.below d.out.1.bel));have HB:=aa d.out.1.bel;clear d;go_wp2_with fail;refine HM.mono ?_;rintro e u ⟨O,rfl⟩;have HF:=aa (HB.trans (O.mono HB.size));clear O HM;go_wp2_with fail;go_ret;exact⟨HF.out,rfl⟩
end Go.Proofs.YtbeaaimcpkogcaaGreatDoor
