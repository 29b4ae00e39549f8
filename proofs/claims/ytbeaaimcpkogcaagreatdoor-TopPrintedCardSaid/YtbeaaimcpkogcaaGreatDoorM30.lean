/- Lemmas on the way to the claim. -/
import Derived.Test.YtbeaaimcpkogcaaGreatDoorM27
set_option linter.unusedSimpArgs false
set_option linter.unusedVariables false
set_option maxHeartbeats 8000000
set_option maxRecDepth 100000
namespace Go.Proofs.YtbeaaimcpkogcaaGreatDoor
open Go.Proofs.Tryz Go.RowKit
variable {w w':World} {base f j k lo m md mf mt mu n size:Nat} {v:Value} {xs:List Value} {fs:List Fun} {bs:List Nat} {nm:Tx} {U0:Tx->Option Value} {ur:Option Nat}
theorem Tryz.info4:(Tryz.prog.info? 4).map (λi=>(i.zero,i.size,i.bytes))=some (some (.bool false),1,1):=by kernel_rfl
theorem xH {w:World} {A:Nat->Prop}:∀{bs:List Nat} {xs:List Ex},dn w A bs xs->xs.length=bs.length
 | [],[],_=>rfl
 | b::bs,x::xs,h=>by rw[dn]at h;simp[xH h.2]
 | [],_::_,h=>by rw[dn]at h<;>first|exact h.elim|(intros;simp_all)
 | _::_,[],h=>by rw[dn]at h<;>first|exact h.elim|(intros;simp_all)
theorem gx {e:TypeId} (h:w.ownsRow base e size v n xs) {a:Option Addr} {c:Nat} (hv:v=.slice a m c):m=n:=by
 rcases h.2 with⟨rfl,rfl⟩|⟨g,b,d,rfl,_⟩
 ·injection hv with _ h2 _;exact h2.symm
 ·injection hv with _ h2 _;exact h2.symm
theorem sQ {e:TypeId} (h:w.ownsRow base e size v n xs):n<=maxLen:=by
 rcases h.2 with⟨_,rfl⟩|⟨g,a,b,_,_,_,c,d,_⟩
 ·exact aV _
 ·exact ay c d
theorem uH {base':Nat} {e e':TypeId} {size':Nat} {v':Value} {n':Nat} {xs':List Value} (h:w.ownsRow base e size v n xs) (h':w.ownsRow base' e' size' v' n' xs') (hne:e≠e') {g:Nat} (hg:v.ownBlock=some g):v'.ownBlock≠some g:=λhg'=>by
 obtain⟨c1,c,b⟩:=bG h hg;obtain⟨c2,d,a⟩:=bG h' hg';rw[b]at a;simp only[aq,Obj.cells.injEq]at a;exact hne a.2.1
theorem xI {w:World} {A:Nat->Prop}:∀{bs:List Nat} {xs:List Ex} {j:Nat},dn w A bs xs->Eh xs->j<bs.length->∃b x,bs[j]?=some b/\xs.drop j=x::xs.drop (j+1)/\x∈xs/\bK w A b x/\ExW x
 | [],_,j,_,_,h=>absurd h (by simp)
 | b::bs,[],j,h,_,_=>by rw[dn]at h<;>first|exact h.elim|(intros;simp_all)
 | b::bs,x::xs,0,h,hw,_=>by
  rw[dn]at h;rw[Eh]at hw;exact⟨b,x,rfl,rfl,aL ..,h.1,hw.1⟩
 | b::bs,x::xs,j+1,h,hw,hj=>by
  rw[dn]at h;rw[Eh]at hw;obtain⟨a,i,c,d,e,f,g⟩:=xI (j:=j) h.2 hw.2 (by simpa using hj);exact⟨a,i,c,d,aP _ e,f,g⟩
theorem lA:∀(ps:List Par) (i:Nat),(bE ps)[i*2]?=(ps[i]?).map (λp=>Value.string ⟨p.name.toArray⟩)/\(bE ps)[i*2+1]?=(ps[i]?).map (λp=>Value.bool p.ptr)
 | [],i=>by simp[bE]
 | p::ps,0=>⟨rfl,rfl⟩
 | p::ps,i+1=>by
  obtain⟨a,b⟩:=lA ps i;have e:bE (p::ps)=.string ⟨p.name.toArray⟩::.bool p.ptr::bE ps:=rfl;rw[e,show(i+1)*2=i*2+1+1 by omega];exact⟨a,b⟩
def Lw (n k f mf mu md mt:Nat) (fs:List Fun) (bs:List Nat) (nm:Tx) (U0:Tx->Option Value) (ur:Option Nat) (lo:Nat) (w:World) (M:Nat) (args:List Ex) (c1:CS) (j:Nat) (kv:Value) (wr:World):Prop:=
 Chg (KS k mu ur) w wr/\∃urj cj ks,KI wr n k f mf mu md mt fs bs nm U0 urj cj/\KD n k f mf mu md mt urj lo/\(urj=ur\/∀g,urj=some g->w.heap.size<=g)/\wr.ownsRow M 4 1 kv j (ks.map Value.bool)/\ks.length=j /\
  rr fs args c1=(rr fs (args.drop j) cj).map λr=>(ks++r.1,r.2)
theorem F2 (fs:List Fun) (bs:List Nat) (nm:Tx) (U0:Tx->Option Value) (lo:Nat) (s:Tx) (args:List Ex) (hargs:∀x∈args,ExC fs bs nm U0 lo x):G8 fs bs nm U0 lo s args:=by
 intro w n k f T mu md mt ur c b v I P Z bB hd hf hb hn ao bC hs dA db;have F:=aa Z;have a0:=aa bB;have aE:=aa hn;have p0:w.cell? ⟨n,0,none⟩=some (pB k):=(ae Z.hn 0).trans rfl;have r0:w.cell? ⟨k,0,none⟩=some (mP T):=(ae Z.hk 0).trans rfl;have b2:w.cell? ⟨b,2,none⟩=some (.string ⟨s.toArray⟩):=(ae hn 2).trans rfl;obtain⟨dG,aL⟩:=Z.funcs;rcases De s hf.funs with⟨g,gb,K,ac,d2⟩|⟨K,ac⟩
 ·obtain⟨c8,dp,vp,vb,dz,ca,cb,_,_⟩:=d2
  have au:∀q,(Instr.lookup 278 (mP T) (.string ⟨s.toArray⟩) true).run prog (w.drewN q)=.ok (.tuple #[pB gb,.bool true]) (w.drewN q):=λq=>by
   have B:Below w.heap.size w (w.drewN q):=⟨rfl,rfl,rfl,ag _,λk Z=>rfl⟩;have:=(aL.below B).look2 (t:=278) underlying278 (rB (w.drewN q)) hs true;rw[show(fQ fs bs s).map pB=some (pB gb) by rw[ac];rfl]at this;exact this
  have HO:=aa (show xS fs s args c=(rr fs args { c with uses:=c.uses++[s] }).bind λk=>if k.1=g.params.map (·.ptr)then some (g.ptr,k.2)else none by unfold xS;rw[K];rfl);have cI:=aa ca;have bf:=aa cb;have bK:=aa hf;have bS:=aa ao;have bU:=aa bC;have c9:gb<lo:=c8;clear Z bB hn aL K ac hf ao bC ca cb c8
  go_enter func273,ntmps273
  go_wp2_with fail
  go_quiet (fail)
  have B:Below w.heap.size w (w.drewN nq):=⟨rfl,rfl,rfl,ag _,λk Z=>rfl⟩;have o:=F.below B;obtain⟨⟨cD,cT,b3,av⟩,b8⟩:=a0.out;have bk:Hid (tN (w.drewN nq) mu c):=⟨⟨cD,cT,b3.below B,av⟩,b8⟩;have V:=aa B;have H:=aX.below B (A:=Lt lo) b _ hb aE.out;clear p0 r0 b2 au B b3 av b8 a0;generalize w.drewN nq=w2 at o bk V H;obtain⟨fp,dy,dx,dw,bq⟩:=o.hf;have n0:w2.cell? ⟨n,0,none⟩=some (pB k):=(ae o.hn 0).trans rfl;have n1:w2.cell? ⟨n,1,none⟩=some (pB f):=(ae o.hn 1).trans rfl;have k1:w2.cell? ⟨k,1,none⟩=some (mP mu):=(ae o.hk 1).trans rfl;have f0:w2.cell? ⟨f,0,none⟩=some (.string ⟨nm.toArray⟩):=(ae bq 0).trans rfl;have b2:w2.cell? ⟨b,2,none⟩=some (.string ⟨s.toArray⟩):=(ae H 2).trans rfl;have b7:w2.cell? ⟨b,7,none⟩=some (.int .i64 P):=(ae H 7).trans rfl;obtain⟨sz,L,m1,m2,m3,m4,m5⟩:=o.uses;have bZ:Below w2.heap.size w2 w2.drew:=(ai _ _).drew;have c0:Below w2.heap.size w2 (w2.drew.alloc (.cells #[.string ⟨s.toArray⟩] 9)):=(ai _ _).drew.alloc (by exact ag _) _;have bx:=(m1.below bZ).look2 (t:=279) underlying279 (yj w2.drew) F.names false;have aM:=(m1.below c0).look2 (t:=279) underlying279 (yj (w2.drew.alloc (.cells #[.string ⟨s.toArray⟩] 9))) F.names false;have ck:(Instr.lookup 279 (mP mu) (.string ⟨nm.toArray⟩) false).run prog ((w2.alloc (.cells #[.string ⟨s.toArray⟩] 9)).drew)=.ok ((L nm).getD (.slice none 0 0)) ((w2.alloc (.cells #[.string ⟨s.toArray⟩] 9)).drew):=aM;simp only[bl,gy]at bx aM;obtain⟨ua,un,uc,Y⟩:=bD m4;have cn:lo<=w2.heap.size:=by have:=hd.l.1;have:=ab o.hn;omega
  have bI:Hid (∀gg d N,(w2.drew.alloc (.cells #[.string ⟨s.toArray⟩] 9)).grownBy N (Value.slice ua un uc).ownBlock->N.ownsRow 0 9 1 (.slice (some ⟨gg,0,none⟩) (c.uses.length+1) d) (c.uses.length+1) (txs c.uses++[.string ⟨s.toArray⟩])->((Value.slice ua un uc).ownBlock=some gg\/gg=w2.heap.size+1) ->
    ∃w3,(Instr.mapUpdate 279 (mP mu) (.string ⟨nm.toArray⟩) (.slice (some ⟨gg,0,none⟩) (c.uses.length+1) d)).run prog N=.ok () w3/\(N.cell? ⟨n,0,none⟩=some (pB k)/\N.cell? ⟨n,1,none⟩=some (pB f)/\N.cell? ⟨k,1,none⟩=some (mP mu)/\N.cell? ⟨f,0,none⟩=some (.string ⟨nm.toArray⟩)/\N.cell? ⟨b,2,none⟩=some (.string ⟨s.toArray⟩))/\(w3.cell? ⟨n,0,none⟩=some (pB k)/\w3.cell? ⟨n,1,none⟩=some (pB f)/\w3.cell? ⟨k,1,none⟩=some (mP mu)/\w3.cell? ⟨f,0,none⟩=some (.string ⟨nm.toArray⟩)/\w3.cell? ⟨b,2,none⟩=some (.string ⟨s.toArray⟩))/\Hid (Chg (KS k mu ur) w2 w3/\∃E,KI w3 n k f T mu md mt fs bs nm U0 E { c with uses:=c.uses++[s] }/\KD n k f T mu md mt E lo/\(E=ur\/∀g,E=some g->w2.heap.size<=g))):=λgg d N hg y bo=>by
   obtain⟨w3,h1,h2,h3,E,h4,h5,h6⟩:=KI.use (lo:=lo) o hd s bk.out m1 m3 m4 m5 (by rw[Y];exact hg) y (by rw[<- m5,Y];exact bo) cn;have keep:∀w',Chg (KS k mu ur) w2 w'->w'.heap[k]?=some (.cells #[mP T,mP mu,.int .i64 c.left] 281 (0,0))->w'.cell? ⟨n,0,none⟩=some (pB k)/\w'.cell? ⟨n,1,none⟩=some (pB f)/\w'.cell? ⟨k,1,none⟩=some (mP mu)/\w'.cell? ⟨f,0,none⟩=some (.string ⟨nm.toArray⟩)/\w'.cell? ⟨b,2,none⟩=some (.string ⟨s.toArray⟩):=λw' hc hkk=>by
    have bA:∀i,i=n\/i<lo->¬KS k mu ur i:=λi hi hs=>by
     have hl:=hd.l;rcases hi with rfl|hi
     ·rcases hs with e|e|e
      ·exact hd.an.1 e
      ·exact hd.an.2.2.1 e
      ·exact(hd.au _ e).2.1 rfl
     ·have:=KS.ge hd i hs;omega
    have en:w'.heap[n]?=w2.heap[n]?:=hc.block n (ab o.hn) (bA n (.inl rfl));have ef:w'.heap[f]?=w2.heap[f]?:=hc.block f (ab bq) (bA f (.inr hd.l.2.2.1));have eb:w'.heap[b]?=w2.heap[b]?:=hc.block b (ab H) (bA b (.inr hb));exact⟨(aI (w:=w2) (a:=⟨n,0,none⟩) en).trans n0,(aI (w:=w2) (a:=⟨n,1,none⟩) en).trans n1,(ae hkk 1).trans rfl,(aI (w:=w2) (a:=⟨f,0,none⟩) ef).trans f0,(aI (w:=w2) (a:=⟨b,2,none⟩) eb).trans b2⟩
   have d5:N.heap[k]?=some (.cells #[mP T,mP mu,.int .i64 c.left] 281 (0,0)):=by
    rw[hg.block k (by rw[ah];have:w2.drew.heap.size=w2.heap.size:=rfl;have:=ab o.hk;omega) (λe=>(hd.au k (by rw[<- m5,Y];exact e.symm)).2.2.1 rfl),aK _ _ _ (by exact ab o.hk)];exact o.hk
   exact⟨w3,h1,keep N h2 d5,keep w3 h3 h4.hk,h3,E,h4,h5,h6⟩
  have bQ:Hid ((w2.drew.alloc (.cells #[.string ⟨s.toArray⟩] 9)).ownsRow 0 9 1 (.slice ua un uc) c.uses.length (txs c.uses)):=by rw[<- Y];exact(m4.drew).alloc _
  rw[Y]at bx aM ck;have dE:=bk.out.2;obtain⟨i0,hi,df,dg,dh⟩:=cX Tryz.info9;have dn:=aH n0;have dl:=aH k1;have dk:=aH f0;have di:=aH b2;have cJ:=aa o;have ds:=aa H;clear m1 m2 m3 m4 m5 Y bZ c0 o bq H;go_wp2_with fail;refine(bi w2 5 P).mono ?_;rintro e u ⟨rfl,rfl⟩
  go_upto_region 3 with fail
  go_cut [] (λwx=>Hid (Chg (KS k mu ur) w2 wx/\∃E,KI wx n k f T mu md mt fs bs nm U0 E { c with uses:=c.uses++[s] }/\KD n k f T mu md mt E lo/\(E=ur\/∀g,E=some g->w2.heap.size<=g)))
  case first =>
   go_region_held3 (λw'=>w'.cell? ⟨n,0,none⟩=some (pB k)/\w'.cell? ⟨n,1,none⟩=some (pB f)/\w'.cell? ⟨k,1,none⟩=some (mP mu)/\w'.cell? ⟨f,0,none⟩=some (.string ⟨nm.toArray⟩)/\w'.cell? ⟨b,2,none⟩=some (.string ⟨s.toArray⟩))
    (first
     | (exact⟨n0,n1,k1,f0,b2⟩)
     | (exact⟨kE n0,kE n1,kE k1,kE f0,kE b2⟩)
     | (exact cY)
     | (exact cZ)
     | go_keep)
    (first
     | (refine step_append_lies _ (by rfl) _ _ _ (by rfl) 0 9 i0 (.string ⟨#[]⟩) 1 16 underlying96 hi df dg dh rfl (by omega) (.slice ua un uc) c.uses.length (txs c.uses) (by rfl) bQ.out ⟨w2.heap.size,0,none⟩ 1 1 [.string ⟨s.toArray⟩] (by rfl) (by rfl) (eu w2.drew _ _) (by simp[Value.oneCell']) (by omega) (by unfold maxLen;omega) (by omega) (by omega) (w2.heap.size+1) (by simp) ?_;intro gg d N y br bo an;obtain⟨w3,hU,cY,cZ,hR⟩:=bI.out gg d N br y bo))
   all_goals (go_wp2_with fail;go_meet;exact hR)
  case rest =>
   rename World=>w4
   obtain⟨c2,bG,cd,c3,ct⟩:=hcut.out;clear hcut bI bQ bx aM ck cJ;have aC:=aa (show Chg (KS k mu ur) w w4 from(Chg.of_below V.out).then c2);have C:=KS.tree hd aC.out;have cs:=aC.size;have bh:=aa (C b _ hb aE.out);have aW:=aa (bS.on C);have bV:=aa (bU.onA C);have dr:=aa (bK.onA C);have aD:=aa cd;have cQ:=aa (show bG=ur\/∀g,bG=some g->w.heap.size<=g from ct.imp id λh g hg=>ay V.size (h g hg));have de:args.length=I.length:=xH bV.out;obtain⟨xa,xn,xc,aP⟩:=bD aW.out.1;have cC:xn=I.length:=gx aW.out.1 aP;have b6:w4.cell? ⟨b,6,none⟩=some (.slice xa I.length xc):=by rw[<- cC,<- aP];exact(ae bh.out 6).trans rfl
   have b7:w4.cell? ⟨b,7,none⟩=some (.int .i64 P):=(ae bh.out 7).trans rfl;have bJ:=aC;clear c2 cd ct C aC dn dl dk di n0 n1 k1 f0 b2 cC;obtain⟨i4,cc,b9,ba,bb⟩:=cX Tryz.info4;have dF:I.length<=1000000:=by omega
   have b1:b<w4.heap.size:=ab bh.out;have cl:lo<=w4.heap.size:=by have:=c3.l.1;have:=ab aD.hn;omega
   go_wp2_with (at_make;refine wpList_make_own _ rfl _ _ 289 rfl w4.heap.size 4 i4 (.bool false) 1 underlying289 cc b9 ba .i64 .i64 _ I.length rfl rfl rfl (by rw[bb];omega) (by unfold maxLen;omega) (ag _) ?_;intro w5 aq D;have cU:w5.cell? ⟨b,6,none⟩=some (.slice xa I.length xc):=(aI (w:=w4) (a:=⟨b,6,none⟩) (D.block b b1 (by simp))).trans b6;have cV:w5.cell? ⟨b,7,none⟩=some (.int .i64 P):=(aI (w:=w4) (a:=⟨b,7,none⟩) (D.block b b1 (by simp))).trans b7;have X:=aa D;have bW:=aa aq;clear D aq b6 b7)
   have aJ:Below w4.heap.size w4 w5:=⟨X.os,X.tape,X.output,X.size,λk Z=>X.block k Z (by simp)⟩;have ce:=aD.below aJ;have a0:=aa (show Lw n k f T mu md mt fs bs nm U0 ur lo w w4.heap.size args { c with uses:=c.uses++[s] } 0 (.slice (some ⟨w4.heap.size,0,none⟩) 0 I.length) w5 from
    ⟨bJ.on aJ,bG,_,[],ce,c3,cQ.out,bW.out,rfl,by rw[List.drop_zero];cases rr fs args { c with uses:=c.uses++[s] }<;>rfl⟩)
   have cN:Hid (lo<=w4.heap.size/\w.heap.size<=w4.heap.size/\mu<w4.heap.size/\k<w4.heap.size):=⟨cl,cs,(by obtain⟨_,_,m,_⟩:=aD.uses;exact m.lt),ab aD.hk⟩;have cw:w4.heap.size<=w5.heap.size:=aJ.size;clear aJ ce X bW;go_wp2_with fail
   go_loopw [7,9,79] (λs7 _ s79 wr=>∃j:Nat,s79=.int .i64 j/\j<=I.length/\w4.heap.size<=wr.heap.size/\Hid (Lw n k f T mu md mt fs bs nm U0 ur lo w w4.heap.size args { c with uses:=c.uses++[s] } j s7 wr)) (λ_ _ s79 _=>match s79 with | .int _ j=>I.length-j.toNat|_=>0)
   case atStart=>exact⟨0,rfl,aV _,cw,a0⟩
   case round =>
    clear a0;obtain⟨j,rfl,hj,dc,hr⟩:=hrel;obtain⟨hc,bH,cj,S,cf,c4,cu,b5,cg,c6⟩:=hr.out;clear hr;have C:=KS.tree hd hc;have bz:=C b _ hb aE.out;have b7:wr.cell? ⟨b,7,none⟩=some (.int .i64 P):=(ae bz 7).trans rfl;have W:=aa hc;have J:=aa b5;have bM:=aa c6;have bm:=aa cu;have bg:=aa cf;have bR:=aa bz;have bL:=aa (bK.onA C);clear hc b5 c6 cu cf bz cV cU
    by_cases an:j<I.length
    ·have ar:=bS.on C
     obtain⟨xg,d,G⟩:∃xg d,v=.slice (some ⟨xg,0,none⟩) I.length d:=by
      rcases ar.1.2 with⟨_,h0⟩|⟨xg,d,bY,G,_⟩
      ·omega
      ·exact⟨xg,d,G⟩
     have dd:xa=some ⟨xg,0,none⟩:=by rw[aP]at G;injection G
     have Q:wr.cell? ⟨xg,j,none⟩=(I.map pB)[j]?:=(G▸ar.1:wr.ownsRow 0 261 1 (.slice (some ⟨xg,0,none⟩) I.length d) I.length (I.map pB)).cellAt j (by omega);obtain⟨xb,x,cx,cy,cz,cA,cB⟩:=xI (bU.onA C) db an;have bp:wr.cell? ⟨xg,j,none⟩=some (pB xb):=by rw[Q,aG,cx];rfl
     subst dd;have b0:decide ((j:Int)<(I.length:Int))=true:=by simp;omega
     have HX:=aa (hargs x cz wr n k f T mu md mt bH cj xb P bg.out c4 bL.out cA cB);have a9:Hid (rr fs args { c with uses:=c.uses++[s] }=((gA fs x cj).bind λq=>(rr fs (args.drop (j+1)) q.2).bind λl=>some (q.1::l.1,l.2)).map λr=>(S++r.1,r.2)):=by
      show rr fs args _=_;rw[bM.out,cy,rr]
     have aR:=aa a9.out;clear ar G Q cx cy cz cA cB C aP;have hM:=cN.out;have dD:n<w.heap.size/\f<w.heap.size/\T<w.heap.size/\md<w.heap.size/\mt<w.heap.size/\k<w.heap.size/\mu<w.heap.size:=by
      obtain⟨_,_,_,_,a1⟩:=F.hf;obtain⟨_,a2,_⟩:=F.there;obtain⟨_,a3⟩:=F.funcs;obtain⟨_,_,a4,_⟩:=F.uses;exact⟨ab F.hn,ab a1,a3.lt,F.decl.lt,a2.lt,ab F.hk,a4.lt⟩
     go_wp2_with fail;refine HX.mono ?_;rintro e q ⟨a7,hz⟩;have be:=aa (KS.then W.out a7 bm.out);cases ho:gA fs x cj with
     | none =>
      rw[ho]at hz;obtain⟨c1,l1,rfl⟩:=hz;have bj:=aa ho;clear ho a7 a9;go_wp2_with fail;exact⟨rfl,cm.gave (by rw[HO.out,aR.out,bj.out];rfl) be.out c1 l1⟩
     | some a =>
      obtain⟨p,cq⟩:=a;rw[ho]at hz;obtain⟨cp,dq,bv,c5,cv⟩:=hz;have da:e=.returned (.bool p):=cp;subst da;have bj:=aa ho;have b4:∀g,u7.ownBlock=some g->¬KS k mu bH g:=λg hg hs=>by
       have h1:=cG J.out g hg;rcases hs with e|e|e
       ·omega
       ·omega
       ·obtain⟨_,L,_,_,_,h5,h6⟩:=bg.uses
        exact uH J.out h5 (by decide) hg (h6.trans e)
      have bX:=aa (aY J.out a7 b4);have bP:=aa bv;have cE:=aa c5;have cR:=aa (rW W.size bm.out cv);have dt:=be.size;have cW:w4.heap.size<=q.heap.size:=ay dc a7.size;have dB:j+1<=1000000:=by omega
      clear ho a7 cp bv c5 cv b4 bp b0 b7 a9
      go_wp2_with (at_builtin;refine wpList_append_own _ rfl _ _ 289 rfl w4.heap.size 4 i4 (.bool false) 1 1 underlying289 cc b9 ba bb rfl (by decide) _ _ _ rfl (bX.alloc _) ⟨q.heap.size,0,none⟩ 1 1 [.bool p] rfl rfl (eu q _ _) (by simp[Value.oneCell']) (by unfold maxLen;omega) (by omega) (by simp;omega) ?_;intro v' N y R _;have cH:=aa R;have cS:=aa y;clear R y)
      have K:(q.alloc (.cells #[.bool p] 4)).grownBy N u7.ownBlock:=cH.out;have z:∀i,u7.ownBlock=some i->w4.heap.size<=i:=λi e=>cG J.out i e;have d1:Chg (KS k mu ur) w N:=(be.alloc _).grown K (λg hg hl=>absurd (z g hg) (by omega));have cr:Chg (λi=>u7.ownBlock=some i) q N:=((Chg.refl _ q).alloc _).grown K (λg hg _=>hg);have ch:=bP.chg cr (λe=>by have:=z n e;omega) (λe=>by have:=z k e;omega) (λe=>by have:=z f e;omega) (λe=>by have:=z T e;omega) (λe=>by have:=z mu e;omega) (λe=>by have:=z md e;omega) (λe=>by have:=z mt e;omega) (λg hg e=>by
       obtain⟨_,L,_,_,_,h5,h6⟩:=bP.uses;exact uH bX.out h5 (by decide) e (h6.trans hg))
      refine⟨⟨j+1,by simp,by omega,ay cW cr.size,d1,dq,cq,S++[p],ch,cE.out,cR.out,by rw[dT];exact cS.out,by simp[cg],?_⟩,?_⟩
      ·rw[aR.out,bj.out]
       show((rr fs (args.drop (j+1)) cq).bind λl=>some (p::l.1,l.2)).map _=_;cases rr fs (args.drop (j+1)) cq with
       | none=>rfl
       | some l=>simp
      ·show I.length-((j:Int)+1).toNat<I.length-(j:Int).toNat
       omega
    ·have bt:j=I.length:=by omega
     have b0:decide ((j:Int)<(I.length:Int))=false:=by simp;omega
     have c7:rr fs args { c with uses:=c.uses++[s] }=some (S,cj):=by
      rw[bM.out,show args.drop j=[] from by rw[bt,<- de];simp,rr];simp
     have cF:=aa c7;have du:=aa bt;clear c7 bt;obtain⟨pa,pn,pc,aO⟩:=bD bf.out.1;have co:pn=g.params.length:=gx bf.out.1 aO;have ad:=C gb _ c9 cI.out;have g1:wr.cell? ⟨gb,1,none⟩=some (.slice pa g.params.length pc):=by rw[<- co,<- aO];exact(ae ad 1).trans rfl
     obtain⟨ka,kn,kc,bw⟩:=bD J.out;have d7:kn=S.length:=(gx J.out bw).trans cg.symm;subst d7;have aS:=aa ad;have dv:=aa bw;have bn:=HO.out;rw[cF.out,aj]at bn;have bd:=aa bn;have cP:=aa aO;clear aO co ad bn;subst bw
     by_cases hlen:S.length=g.params.length
     ·have aU:=aa hlen
      have d0:Below wr.heap.size wr wr.drew:=(ai _ _).drew;rw[hlen];clear hlen;go_wp2_with fail
      go_still_tail 12,(by kernel_rfl)
      change wpList _ _ _ _ _ wr.drew;go_wp2_with fail;refine(bi wr.drew 2 P).mono ?_;rintro e u ⟨rfl,rfl⟩;go_wp2_with fail;have aZ:=aa (show Below wr.heap.size wr wr.drew/\∀m,m<0->S[m]?=(g.params.map (·.ptr))[m]? from⟨d0,λm hm=>absurd hm (by omega)⟩)
      go_loopw [10,11,112] (λ_ _ s112 w'=>∃i:Nat,s112=.int .i64 i/\i<=g.params.length/\Hid (Below wr.heap.size wr w'/\∀m,m<i->S[m]?=(g.params.map (·.ptr))[m]?)) (λ_ _ s112 _=>match s112 with | .int _ j=>g.params.length-j.toNat|_=>0)
      case atStart=>exact⟨0,rfl,aV _,aZ⟩
      case round =>
       clear aZ
       rename World=>w6
       obtain⟨i,rfl,hi,hr⟩:=hrel;obtain⟨a6,a5⟩:=hr.out;clear hr;have U:=aa a6;have aQ:=aa a5;have bN:=aa (show w6.heap[gb]?=some (fnC g.name vp g.ptr vb dp) by rw[a6.block _ (ab aS.out)];exact aS.out);have cO:=aa (show w6.heap[b]?=some (exC 4 0 s [] (.pointer none) (.pointer none) v P) by rw[a6.block _ (ab bR.out)];exact bR.out);have z7:w6.cell? ⟨b,7,none⟩=some (.int .i64 P):=(ae cO.out 7).trans rfl
       by_cases an:i<g.params.length
       ·have ak:=(bf.on (KS.tree hd W.out)).on (aX.below U.out)
        obtain⟨pg,aB,bF⟩:∃pg aB,vp=.slice (some ⟨pg,0,none⟩) g.params.length aB:=by
         rcases ak.1.2 with⟨_,h0⟩|⟨pg,d,bY,G,_⟩
         ·omega
         ·exact⟨pg,d,G⟩
        have d9:pa=some ⟨pg,0,none⟩:=by have:=cP.out;rw[bF]at this;injection this with h1 _ _;exact h1.symm
        have O:w6.ownsRow 0 140 2 (.slice (some ⟨pg,0,none⟩) g.params.length aB) g.params.length (bE g.params):=bF▸ak.1;obtain⟨M,aN⟩:∃M,g.params[i]?=some M:=⟨_,aw an⟩;obtain⟨q1,q2⟩:=lA g.params i;have e0:w6.cell? ⟨pg,i*2,none⟩=some (.string ⟨M.name.toArray⟩):=by rw[O.cellAt (i*2) (by omega),q1,aN];rfl
        have e1:w6.cell? ⟨pg,i*2+1,none⟩=some (.bool M.ptr):=by rw[O.cellAt (i*2+1) (by omega),q2,aN];rfl
        have d4:i<S.length:=by rw[aU.out];exact an
        obtain⟨kg,aA,am⟩:∃kg aA,(.slice ka S.length kc:Value)=.slice (some ⟨kg,0,none⟩) j aA:=by
         rcases J.out.2 with⟨_,h0⟩|⟨kg,d,bY,G,_⟩
         ·omega
         ·exact⟨kg,d,G⟩
        have d6:ka=some ⟨kg,0,none⟩:=by injection am
        have al:wr.ownsRow w4.heap.size 4 1 (.slice (some ⟨kg,0,none⟩) j aA) j (S.map Value.bool):=am▸J.out;obtain⟨kb,bu⟩:∃kb,S[i]?=some kb:=⟨_,aw d4⟩;have e2:w6.cell? ⟨kg,i,none⟩=some (.bool kb):=by
         have h1:wr.cell? ⟨kg,i,none⟩=some (.bool kb):=by rw[al.cellAt i (by omega),aG,bu];rfl
         rw[U.cell (p:=⟨kg,i,none⟩) (aH h1)];exact h1
        have a8:decide ((i:Int)<(g.params.length:Int))=true:=by simp;omega
        have bO:=aa bu;have bT:=aa aN;have dj:=aH z7;have dm:=aH e2;subst d9 d6;clear ak bF O aN q1 q2 am al bu g1 b7 a6 a5;go_wp2_with fail;have aF:Below w6.heap.size w6 (w6.alloc (.cells #[.string ⟨M.name.toArray⟩,.bool M.ptr] 140)):=az;have x1:(w6.alloc (.cells #[.string ⟨M.name.toArray⟩,.bool M.ptr] 140)).cell? ⟨w6.heap.size,1,none⟩=some (.bool M.ptr):=(ae (af _ _) 1).trans rfl;have x2:(w6.alloc (.cells #[.string ⟨M.name.toArray⟩,.bool M.ptr] 140)).cell? ⟨kg,i,none⟩=some (.bool kb):=(aF.cell (p:=⟨kg,i,none⟩) dm).trans e2;have x3:(w6.alloc (.cells #[.string ⟨M.name.toArray⟩,.bool M.ptr] 140)).cell? ⟨b,7,none⟩=some (.int .i64 P):=(aF.cell (p:=⟨b,7,none⟩) dj).trans z7;have bc:=aa (U.trans (aF.mono U.size));clear e0 e1 e2 z7 aF a8;generalize w6.alloc (.cells #[.string ⟨M.name.toArray⟩,.bool M.ptr] 140)=w7 at x1 x2 x3 bc
        by_cases hkp:kb=M.ptr
        ·subst hkp
         go_still_tail 11,(by kernel_rfl)
         change wpList _ _ _ _ _ w7.drew;go_wp2_with fail;refine(bi w7.drew 10 P).mono ?_;rintro e u ⟨rfl,rfl⟩;go_wp2_with fail;refine⟨⟨i+1,by simp,by omega,bc.drew,λm hm=>?_⟩,?_⟩
         ·rcases gG m i with h|h
          ·exact aQ.out m h
          ·have d8:m=i:=by omega
           subst d8;rw[bO.out,aG,bT.out];rfl
         ·show g.params.length-((i:Int)+1).toNat<g.params.length-(i:Int).toNat
          omega
        ·have bv:(kb==M.ptr)=false:=by simpa using hkp
         have cK:=aa hkp;clear hkp
         go_still_tail 11,(by kernel_rfl)
         change wpList _ _ _ _ _ w7.drew;go_wp2_with fail;refine(eY w7.drew 10 P).mono ?_;rintro e u ⟨rfl,rfl⟩;go_wp2_with fail;refine⟨rfl,cm.gave (by
          rw[bd.out,ap λe=>?_];have h1:=bO.out;rw[show S=_ from e,aG,bT.out]at h1;exact cK.out (aT h1).symm) (W.on bc.drew) _ _⟩
       ·have d3:i=g.params.length:=by omega
        have a8:decide ((i:Int)<(g.params.length:Int))=false:=by simp;omega
        have ci:S=g.params.map (·.ptr):=by
         apply List.ext_getElem?;intro m;rcases gG m i with hm|hm
         ·exact aQ.out m hm
         ·rw[rz (by rw[aU.out];omega),rz (by simp;omega)]
        have g2:w6.cell? ⟨gb,2,none⟩=some (.bool g.ptr):=(ae bN.out 2).trans rfl;have cL:=aa ci;clear ci a6 a5 d3 b7 g1;go_wp2_with fail;go_ret;exact cm.ret (p:=g.ptr) (c':=cj) (by rw[bd.out,ax cL.out]) (W.on U.out) rfl ⟨bH,bg.below U.out,c4,bm.out⟩
     ·have dC:((j:Int)==(g.params.length:Int))=false:=by simp;omega
      have cM:=aa hlen;clear hlen;go_wp2_with fail
      go_still_tail 12,(by kernel_rfl)
      change wpList _ _ _ _ _ wr.drew;go_wp2_with fail;refine(eY wr.drew 2 P).mono ?_;rintro e u ⟨rfl,rfl⟩;go_wp2_with fail;exact⟨rfl,cm.gave (by rw[bd.out,ap (λe=>cM.out (by rw[show S=_ from e];simp))]) W.drew _ _⟩
 ·have au:∀q,(Instr.lookup 278 (mP T) (.string ⟨s.toArray⟩) true).run prog (w.drewN q)=.ok (.tuple #[.pointer none,.bool false]) (w.drewN q):=λq=>by
   have B:Below w.heap.size w (w.drewN q):=⟨rfl,rfl,rfl,ag _,λk Z=>rfl⟩;have:=(aL.below B).look2 (t:=278) underlying278 (rB (w.drewN q)) hs true;rw[show(fQ fs bs s).map pB=none by rw[ac];rfl]at this;exact this
  have HO:=aa (show xS fs s args c=none by unfold xS;rw[K];rfl);clear Z bB hn aL K ac hf ao bC
  go_enter func273,ntmps273
  go_wp2_with fail
  go_quiet (fail)
  have b7:(w.drewN nq).cell? ⟨b,7,none⟩=some (.int .i64 P):=(ae aE.out 7).trans rfl;have B:Below w.heap.size w (w.drewN nq):=⟨rfl,rfl,rfl,ag _,λk Z=>rfl⟩;have V:=aa B;clear p0 r0 b2 au B;generalize w.drewN nq=w2 at b7 V;go_wp2_with fail;refine(eY w2 5 P).mono ?_;rintro e u ⟨rfl,rfl⟩;go_wp2_with fail;exact⟨rfl,cm.gave HO.out (.of_below V.out) _ _⟩
mutual
theorem jA (hbin:Ej) (fs:List Fun) (bs:List Nat) (nm:Tx) (U0:Tx->Option Value) (lo:Nat):∀x,ExC fs bs nm U0 lo x
 | .num m=>K1 fs bs nm U0 lo m
 | .inp=>K3 fs bs nm U0 lo
 | .name s=>Jj fs bs nm U0 lo s
 | .un t r=>Mm fs bs nm U0 lo t r (jA hbin fs bs nm U0 lo r)
 | .bin t l r=>K4 fs bs nm U0 lo hbin t l r (jA hbin fs bs nm U0 lo l) (jA hbin fs bs nm U0 lo r)
 | .call s args=>Jm fs bs nm U0 lo s args (F2 fs bs nm U0 lo s args (zu hbin fs bs nm U0 lo args))
 | .cell l r=>Jl fs bs nm U0 lo l r (jA hbin fs bs nm U0 lo l) (jA hbin fs bs nm U0 lo r)
 | .link l r=>Jk fs bs nm U0 lo l r (jA hbin fs bs nm U0 lo l) (jA hbin fs bs nm U0 lo r)
 | .new l=>K2 fs bs nm U0 lo l (jA hbin fs bs nm U0 lo l)
theorem zu (hbin:Ej) (fs:List Fun) (bs:List Nat) (nm:Tx) (U0:Tx->Option Value) (lo:Nat):∀(args:List Ex) (x:Ex),x∈args->ExC fs bs nm U0 lo x
 | [],x,h=>by cases h
 | y::ys,x,h=>by
  rcases aR.1 h with h|h
  ·rw[h];exact jA hbin fs bs nm U0 lo y
  ·exact zu hbin fs bs nm U0 lo ys x h
end
def jq:Tx:=[124,38,61,33,60,62,43,45,94,42,47,37]
def BR:Tx:=[32,124,124,32,38,38,32,61,61,32,33,61,32,60,32,60,61,32,62,32,62,61,32,43,32,45,32,124,32,94,32,42,32,47,32,37,32,38,32,60,60,32,62,62,32]
theorem JB {t:Tx} (h:binds t≠0):t∈iQ.map (·.1):=by
 unfold binds at h;cases hq:iQ.find? (λr=>decide (r.1=t))with
 | none=>rw[hq]at h;exact absurd rfl h
 | some r =>
  have a:=yg hq;have b:=dR hq;simp only[bw]at a;exact bM.2 ⟨r,b,a⟩
theorem DT:∀t∈iQ.map (·.1),(∀u∈t,u∈jq)/\t≠[]/\t.length<=2/\Lib.contains BR ([32]++t++[32])=true:=by decide
theorem ER:∀u∈jq,u.toNat<128/\Lib.containsAny [u] jq=true:=by decide
theorem DV {l:List UInt8} (h:∀b∈l,b.toNat<128):∀(j:Nat) b,l[j]?=some b->b.toNat<128:=λj b hb=>h b (aJ hb)
theorem Gf (r:Nat) (hr:r=124\/r=38\/r=61\/r=33\/r=60\/r=62\/r=43\/r=45\/r=94\/r=42\/r=47\/r=37) (w:World):
  Calls prog 287 #[.string (Utf8.encode r),.string ⟨#[124,38,61,33,60,62,43,45,94,42,47,37]⟩] w λe w'=>e=.returned (.bool true)/\Below w.heap.size w w':=by
 have a:(Utf8.encode r).size<4294967281/\(∀b∈(Utf8.encode r).data.toList,b.toNat<128)/\Lib.containsAny (Utf8.encode r).data.toList jq=true:=by
  rcases hr with h|h|h|h|h|h|h|h|h|h|h|h<;>subst h<;>decide
 refine(Tryz.strings_ContainsAny_laid (Utf8.encode r) ⟨#[124,38,61,33,60,62,43,45,94,42,47,37]⟩ w a.1 (by decide) (DV a.2.1) (DV (by decide))).mono ?_;rintro e w' ⟨rfl,h⟩;exact⟨kB a.2.2,h⟩
theorem G4:Ej:=by
 intro w t o Q;obtain⟨m,o⟩:=o;obtain⟨L,M,V,N⟩:=DT t (JB Q);have R:=aa L;have S:=aa N;have T:=aa o;have X:(t==([]:Tx))=false:=by simpa using M
 have J:(⟨t.toArray⟩:ByteArray).size=t.length:=rfl;have lm:=aH o;obtain⟨s,y⟩:∃s:ByteArray,s=⟨t.toArray⟩:=⟨_,rfl⟩;have U:=aa y;have a0:s.size<=2:=by rw[y];exact V
 have z:s.data.toList=t:=by rw[y]
 have F:=aa z;rw[<- y];clear L M N o Q y z J
 go_enter func282,ntmps282
 go_wp2_with fail
 go_loopw [4] (λ_ wr=>∃p:Nat,p<=s.size/\wr.heap[w.heap.size]?=some (.stringIter s p)/\Below w.heap.size w wr) (λ_ wr=>s.size-wr.iterPos w.heap.size)
 case atStart=>exact⟨0,aV _,af _ _,az⟩
 case round =>
  obtain⟨p,Y,n,k⟩:=hrel;have A:=aa n;have g:=aa k;clear n k
  by_cases hlt:p<s.size
  ·have hn:=Lib.run_next_any_at (P:=prog) wr w.heap.size s p
   have h:=aa λty=>hn ty A.out hlt;clear hn;have G:p<s.data.toList.length:=by simpa using hlt
   obtain⟨r,a⟩:∃r:Nat,(Utf8.decode s p).1=r:=⟨_,rfl⟩;obtain⟨q,B⟩:∃q:Nat,p+(Utf8.decode s p).2=q:=⟨_,rfl⟩;rw[a,B]at h;have hn:=h.out;clear h;have c:s[p]∈jq:=R.out _ (by rw[<- F.out];exact List.getElem_mem G);have O:=(ER _ c).1;rw[oe s p hlt O]at a B;simp only at a B;have f:r∈jq.map (·.toNat):=by rw[<- a];exact bM.2 ⟨_,c,rfl⟩
   have I:q<=s.size:=by omega
   have Z:p<q:=by omega
   clear a B O c;have x:r=124\/r=38\/r=61\/r=33\/r=60\/r=62\/r=43\/r=45\/r=94\/r=42\/r=47\/r=37:=by simpa [jq]using f
   clear f;rcases x with a|a|a|a|a|a|a|a|a|a|a|a
   all_goals
    subst a;go_wp2_with fail;refine(Gf _ (by decide) _).mono ?_;rintro e u ⟨rfl,K⟩;have i:=aa (pr g.out (ag _) s q);have b:(wr.iterAt w.heap.size s q).heap[w.heap.size]?=some (.stringIter s q):=rA _ _ _ _ _ A.out;have j:=aa (show u.heap[w.heap.size]?=some (.stringIter s q) by rw[K.block _ (ab b)];exact b);have C:=aa (i.trans (K.mono i.size));clear K b;go_wp2_with fail
    go_roundw
    case rel=>exact⟨q,I,j.out,C.out⟩
    case measure =>
     rw[show wr.iterPos w.heap.size=p by simp[World.iterPos,A.out],show u.iterPos w.heap.size=q by simp[World.iterPos,j.out]];omega
  ·have H:p=s.size:=by omega
   have hn:=py (P:=prog) wr w.heap.size s p;have h:=aa λty=>hn ty A.out (by omega);clear hn;have hn:=h.out;have W:=U.out;subst W;clear h hlt H Y;have v:wr.cell? ⟨4,0,none⟩=some (.int .i64 m):=(g.cell (p:=⟨4,0,none⟩) lm).trans T.out;have d:(⟨#[32,124,124,32,38,38,32,61,61,32,33,61,32,60,32,60,61,32,62,32,62,61,32,43,32,45,32,124,32,94,32,42,32,47,32,37,32,38,32,60,60,32,62,62,32]⟩:ByteArray).size<4294967281:=by decide
   have l:Lib.contains (⟨#[32,124,124,32,38,38,32,61,61,32,33,61,32,60,32,60,61,32,62,32,62,61,32,43,32,45,32,124,32,94,32,42,32,47,32,37,32,38,32,60,60,32,62,62,32]⟩:ByteArray).data.toList ((⟨#[32]⟩:ByteArray)++⟨t.toArray⟩++⟨#[32]⟩).data.toList=true:=by
    rw[show((⟨#[32]⟩:ByteArray)++⟨t.toArray⟩++⟨#[32]⟩).data.toList=[32]++t++[32] by simp[ByteArray.data_append]];exact S.out
   have D:=aa (Tryz.strings_Contains ⟨#[32,124,124,32,38,38,32,61,61,32,33,61,32,60,32,60,61,32,62,32,62,61,32,43,32,45,32,124,32,94,32,42,32,47,32,37,32,38,32,60,60,32,62,62,32]⟩ ((⟨#[32]⟩:ByteArray)++⟨t.toArray⟩++⟨#[32]⟩) m wr d v);have E:=aa l;clear l d v;go_wp2_with fail;refine D.mono ?_;rintro e u ⟨rfl,rfl⟩;rw[E.out];go_wp2_with fail;go_ret;exact⟨rfl,g.out⟩
def dS (md mt:Nat):Nat->Prop:=λi=>i=md\/i=mt
theorem KI.declared {c:CS} (h:KI w n k f mf mu md mt fs bs nm U0 ur c) (hd:KD n k f mf mu md mt ur lo) (s:Tx) (p:Bool) (hs:s ∉ c.decl) (hl:c.decl.length<200) (hc:Chg (dS md mt) w w')
 {szt:Nat} (h1:bz w' md (upd (λt=>if t∈c.decl then some (.bool true)else none) s (.bool true)) (c.decl.length+1)) (h2:bz w' mt (upd (λt=>(c.there.lookup t).map Value.bool) s (.bool p)) szt) (h3:szt<=c.decl.length+1):
  KI w' n k f mf mu md mt fs bs nm U0 ur { c with decl:=s::c.decl,there:=(s,p)::c.there }:=by
 obtain⟨q,x,v,l,d⟩:=h.hf;obtain⟨sz,L,m,o,r,u,b⟩:=h.uses;have j:=hd.l;have ne:∀i,¬i=md->¬i=mt->¬dS md mt i:=λi h1 h2 h3=>h3.elim h1 h2;refine⟨by rw[hc.block _ (ab h.hn) (ne n hd.an.2.2.2.1 hd.an.2.2.2.2)];exact h.hn,by rw[hc.block _ (ab h.hk) (ne k hd.ak.2.2.1 hd.ak.2.2.2)];exact h.hk,⟨q,x,v,l,by rw[hc.block _ (ab d) (ne f (by omega) (by omega))];exact d⟩,?_,⟨szt,?_,h3⟩,(by obtain⟨s,a⟩:=h.funcs;exact⟨s,a.chg hc (ne mf hd.am.2.1 hd.am.2.2.1)⟩),
  ⟨sz,L,m.chg hc (ne mu hd.am.2.2.2.1 hd.am.2.2.2.2.1),o,r,aY u hc (λg hg=>ne g (hd.au g (b.symm.trans hg)).2.2.2.2.2.1 (hd.au g (b.symm.trans hg)).2.2.2.2.2.2),b⟩,h.lefts,h.usesl,by show c.decl.length+1<=200;omega,h.names⟩
 ·have e:upd (λt=>if t∈c.decl then some (Value.bool true)else none) s (.bool true)=λt=>if t∈s::c.decl then some (Value.bool true)else none:=by
   funext t
   unfold upd
   by_cases ht:t=s
   ·subst ht;simp
   ·rw[ap ht]
    simp[ht]
  rw[<- e];exact h1
 ·have e:upd (λt=>(c.there.lookup t).map Value.bool) s (.bool p)=λt=>(((s,p)::c.there).lookup t).map Value.bool:=by
   funext t
   unfold upd
   by_cases ht:t=s
   ·subst ht;simp[List.lookup_cons]
   ·rw[ap ht,List.lookup_cons]
    have:(t==s)=false:=by simpa using ht
    rw[this]
  rw[<- e];exact h2
theorem xP (w:World) (n k f mf mu md mt:Nat) (fs:List Fun) (bs:List Nat) (nm:Tx) (U0:Tx->Option Value) (ur:Option Nat) (c:CS) (lo:Nat) (hk:KI w n k f mf mu md mt fs bs nm U0 ur c) (hd:KD n k f mf mu md mt ur lo) (s:Tx) (p:Bool) (ln:Int) (hs:s.length<=4294967296) (h1:s ∉ c.decl) (h2:c.decl.length<200):
  Calls prog 222 #[pB n,.string ⟨s.toArray⟩,.bool p,.int .i64 ln] w λe w'=>e=.returned (.tuple #[])/\Chg (dS md mt) w w'/\KI w' n k f mf mu md mt fs bs nm U0 ur { c with decl:=s::c.decl,there:=(s,p)::c.there }:=by
 have c2:w.cell? ⟨n,2,none⟩=some (mP md):=(ae hk.hn 2).trans rfl;have G:w.cell? ⟨n,3,none⟩=some (mP mt):=(ae hk.hn 3).trans rfl;have U:(Instr.lookup 318 (mP md) (.string ⟨s.toArray⟩) false).run prog w=.ok (.bool false) w:=by
  have:=hk.decl.look2 (t:=318) underlying318 (zI w) hs false;rw[ap h1]at this;exact this
 have V:(Builtin.len_ #[318] 3 #[mP md]).run prog w=.ok (.int .i64 c.decl.length) w:=hk.decl.len underlying318 3;have T:decide ((c.decl.length:Int)<200)=true:=by simp;omega
 have d:Below w.heap.size w w.drew:=(ai _ _).drew;have v:=hk.decl.below d;obtain⟨K,y,J⟩:=hk.there;obtain⟨v0,st,L,b,Z,e2,H,S,q⟩:=v.entry (t:=318) underlying318 zI (by unfold maxLen;omega) hs (.bool true);have x:bz b mt (λt=>(c.there.lookup t).map Value.bool) K:=(y.below d).chg q (λe=>hd.am.2.2.2.2.2 e.symm);obtain⟨v1,W,M,z,X,Y,Q,R,A⟩:=x.entry (t:=318) underlying318 zI (by unfold maxLen;omega) hs (.bool p);have I:w.drew.heap[n]?=w.heap[n]?:=rfl;have h:L.heap[n]?=w.heap[n]?:=S.block n (by exact ab hk.hn) hd.an.2.2.2.1;have j:b.heap[n]?=w.heap[n]?:=q.block n (by exact ab hk.hn) hd.an.2.2.2.1;have l:M.heap[n]?=b.heap[n]?:=R.block n (by have:=q.size;have:=ab hk.hn;exact bu this (by assumption)) hd.an.2.2.2.2;have m:z.heap[n]?=b.heap[n]?:=A.block n (by have:=q.size;have:=ab hk.hn;exact bu this (by assumption)) hd.an.2.2.2.2;have N:L.cell? ⟨n,2,none⟩=some (mP md)/\L.cell? ⟨n,3,none⟩=some (mP mt):=⟨(aI (w:=w) (a:=⟨n,2,none⟩) h).trans c2,(aI (w:=w) (a:=⟨n,3,none⟩) h).trans G⟩;have o:b.cell? ⟨n,2,none⟩=some (mP md)/\b.cell? ⟨n,3,none⟩=some (mP mt):=⟨(aI (w:=w) (a:=⟨n,2,none⟩) j).trans c2,(aI (w:=w) (a:=⟨n,3,none⟩) j).trans G⟩;have O:M.cell? ⟨n,2,none⟩=some (mP md)/\M.cell? ⟨n,3,none⟩=some (mP mt):=⟨(aI (w:=b) (a:=⟨n,2,none⟩) l).trans o.1,(aI (w:=b) (a:=⟨n,3,none⟩) l).trans o.2⟩;have P:z.cell? ⟨n,2,none⟩=some (mP md)/\z.cell? ⟨n,3,none⟩=some (mP mt):=⟨(aI (w:=b) (a:=⟨n,2,none⟩) m).trans o.1,(aI (w:=b) (a:=⟨n,3,none⟩) m).trans o.2⟩;have g:Chg (dS md mt) w z:=(Chg.of_below d).then ((q.mono λi _ e=>.inl e).then (A.mono λi _ e=>.inr e));have r:=aa (show KI z n k f mf mu md mt fs bs nm U0 ur { c with decl:=s::c.decl,there:=(s,p)::c.there } from
  hk.declared hd s p h1 h2 g ((by rw[ap h1]at H;exact H:bz b md _ (c.decl.length+1)).chg A hd.am.2.2.2.2.2) Q (by split<;>omega))
 have B:=aa g;have C:=aa N;have D:=aa o;have E:=aa O;have F:=aa P;clear hk d v y J H S q x Q R A I h j l m N o O P g h1 h2
 go_enter func222,ntmps222
 go_wp2_with fail;refine(bi w 11 ln).mono ?_;rintro e u ⟨rfl,rfl⟩;go_wp2_with fail;refine(bi w 3 ln).mono ?_;rintro e u ⟨rfl,rfl⟩;go_wp2_with fail
 go_region_held3 (λw'=>w'.cell? ⟨n,2,none⟩=some (mP md)/\w'.cell? ⟨n,3,none⟩=some (mP mt))
  (first
   | (exact⟨c2,G⟩)
   | (exact C.out)
   | (exact D.out)
   | (exact E.out)
   | (exact F.out)
   | go_keep)
  (fail)
 all_goals
  go_wp2_with fail;go_end0;exact⟨rfl,B.out,r.out⟩
theorem AW (w:World) (n k f mf mu md mt:Nat) (fs:List Fun) (bs:List Nat) (nm:Tx) (U0:Tx->Option Value) (ur:Option Nat) (c:CS) (hk:KI w n k f mf mu md mt fs bs nm U0 ur c) (s:Tx) (p:Bool) (ln:Int) (hs:s.length<=4294967296) (h:s∈c.decl\/200<=c.decl.length):
  Calls prog 222 #[pB n,.string ⟨s.toArray⟩,.bool p,.int .i64 ln] w λe w'=>Eq e/\w=w':=by
 have c2:w.cell? ⟨n,2,none⟩=some (mP md):=(ae hk.hn 2).trans rfl;have a:=hk.decl.look2 (t:=318) underlying318 (zI w) hs false
 by_cases h1:s∈c.decl
 ·have b:(Instr.lookup 318 (mP md) (.string ⟨s.toArray⟩) false).run prog w=.ok (.bool true) w:=by
   rw[ax h1]at a;exact a
  clear a hk h h1
  go_enter func222,ntmps222
  go_wp2_with fail;refine(eY w 11 ln).mono ?_;rintro e u ⟨rfl,rfl⟩;go_wp2_with fail;exact⟨rfl,⟨_,_,rfl⟩,rfl⟩
 ·have b:(Instr.lookup 318 (mP md) (.string ⟨s.toArray⟩) false).run prog w=.ok (.bool false) w:=by
   rw[ap h1]at a;exact a
  have g:200<=c.decl.length:=h.resolve_left h1;have i:(Builtin.len_ #[318] 3 #[mP md]).run prog w=.ok (.int .i64 c.decl.length) w:=hk.decl.len underlying318 3;have d:decide ((c.decl.length:Int)<200)=false:=by simp;omega
  clear a hk h h1 g
  go_enter func222,ntmps222
  go_wp2_with fail;refine(bi w 11 ln).mono ?_;rintro e u ⟨rfl,rfl⟩;go_wp2_with fail;refine(eY w 3 ln).mono ?_;rintro e u ⟨rfl,rfl⟩;go_wp2_with fail;exact⟨rfl,⟨_,_,rfl⟩,rfl⟩
theorem wE (w:World) (sz:Nat) (h:sz<=200):(Instr.makeMap 318 (some (.int .i64 sz))).run prog w=.ok (mP w.heap.size) (w.alloc (.map #[] 0)):=by
 simp[Instr.makeMap,go_sem,Result.andThen]
def SS (n k mu md mt:Nat) (ur:Option Nat):Nat->Prop:=λi=>i=n\/i=k\/i=mu\/i=md\/i=mt\/ur=some i
def FP (w:World) (f:Nat) (nm:Tx) (fp:Bool):Prop:=∃vp vb ln,w.heap[f]?=some (fnC nm vp fp vb ln)
def lV (o:Option CS) (n k f mf mu md mt:Nat) (fs:List Fun) (bs:List Nat) (nm:Tx) (U0:Tx->Option Value) (ur:Option Nat) (lo:Nat) (w:World) (e:Ending) (w':World):Prop:=
 Chg (SS n k mu md mt ur) w w'/\match o with
 | none=>Eq e
 | some c'=>e=.returned (.tuple #[])/\∃ur' mt',KI w' n k f mf mu md mt' fs bs nm U0 ur' c'/\KD n k f mf mu md mt' ur' lo/\(ur'=ur\/∀g,ur'=some g->w.heap.size<=g)/\(mt'=mt\/w.heap.size<=mt')
mutual
def SmW:Sm->Prop
 | .var n _ none=>n.length<=4294967296
 | .var n _ (some r)=>n.length<=4294967296/\ExW r
 | .set n r=>n.length<=4294967296/\ExW r
 | .cell l r=>(∃a b,l=.cell a b\/l=.link a b)/\ExW l/\ExW r
 | .iff r a b=>ExW r/\ye a/\ye b
 | .whl r a=>ExW r/\ye a
 | .out r=>ExW r
 | .free r=>ExW r
 | .drain=>True
 | .ret none=>True
 | .ret (some r)=>ExW r
 | .call r=>(∃s args,r=.call s args)/\ExW r
def ye:List Sm->Prop
 | []=>True
 | x::xs=>SmW x/\ye xs
end
theorem wy:∀{l:List Sm} {x:Sm},ye l->x∈l->SmW x
 | [],_,_,h=>by cases h
 | y::l,x,hw,h=>by
  unfold ye at hw;rcases aR.1 h with rfl|h
  ·exact hw.1
  ·exact wy hw.2 h
def StC (fs:List Fun) (bs:List Nat) (nm:Tx) (U0:Tx->Option Value) (lo:Nat) (fp:Bool) (x:Sm):Prop:=
 ∀w n k f mf mu md mt ur c b ln,KI w n k f mf mu md mt fs bs nm U0 ur c->KD n k f mf mu md mt ur lo->Env w lo bs fs->FP w f nm fp->ci w (Lt lo) b x->SmW x ->
  Calls prog 252 #[pB n,pB b,.int .i64 ln] w (lV (eQ fs fp x c) n k f mf mu md mt fs bs nm U0 ur lo w)
theorem SS.ge (h:KD n k f mf mu md mt ur lo):∀i,SS n k mu md mt ur i->lo<=i:=λi a=>by
 have:=h.l;rcases a with rfl|rfl|rfl|rfl|rfl|a
 ·omega
 ·omega
 ·omega
 ·omega
 ·omega
 ·exact(h.au i a).1
theorem SS.tree (h:KD n k f mf mu md mt ur lo) (hc:Chg (SS n k mu md mt ur) w w'):aX (Lt lo) w w':=
 hc.sameOn λi hi hs=>by have:=SS.ge h i hs;have:i<lo:=hi;omega
theorem SS.then {a b c:World} {mt':Nat} {ur':Option Nat} (h:Chg (SS n k mu md mt ur) a b) (h2:Chg (SS n k mu md mt' ur') b c) (hu:ur'=ur\/∀g,ur'=some g->a.heap.size<=g) (hm:mt'=mt\/a.heap.size<=mt'):Chg (SS n k mu md mt ur) a c:=by
 refine h.trans h2 λi hi d=>?_;rcases d with d|d|d|d|d|d
 ·exact .inl d
 ·exact .inr (.inl d)
 ·exact .inr (.inr (.inl d))
 ·exact .inr (.inr (.inr (.inl d)))
 ·rcases hm with rfl|hm
  ·exact .inr (.inr (.inr (.inr (.inl d))))
  ·omega
 ·rcases hu with rfl|hu
  ·exact .inr (.inr (.inr (.inr (.inr d))))
  ·have:=hu i d;omega
theorem Bu {w:World} {A:Nat->Prop}:∀{bs:List Nat} {xs:List Sm} {j:Nat},cu w A bs xs->j<bs.length->∃b x,bs[j]?=some b/\xs.drop j=x::xs.drop (j+1)/\x∈xs/\ci w A b x
 | [],_,j,_,h=>absurd h (by simp)
 | b::bs,[],j,h,_=>by rw[cu]at h<;>first|exact h.elim|(intros;simp_all)
 | b::bs,x::xs,0,h,_=>by
  rw[cu]at h;exact⟨b,x,rfl,rfl,aL ..,h.1⟩
 | b::bs,x::xs,j+1,h,hj=>by
  rw[cu]at h;obtain⟨a,g,c,d,e,f⟩:=Bu (j:=j) h.2 (by simpa using hj);exact⟨a,g,c,d,aP _ e,f⟩
theorem sw {w:World} {A:Nat->Prop}:∀{bs:List Nat} {xs:List Sm},cu w A bs xs->xs.length=bs.length
 | [],[],_=>rfl
 | b::bs,x::xs,h=>by rw[cu]at h;simp[sw h.2]
 | [],_::_,h=>by rw[cu]at h<;>first|exact h.elim|(intros;simp_all)
 | _::_,[],h=>by rw[cu]at h<;>first|exact h.elim|(intros;simp_all)
theorem Bb (h:m<=maxLen) (hj:j<m):wrap64 ((j:Int)+1)=(j:Int)+1:=by unfold maxLen at h;exact fR _ (by omega)
theorem ee (hj:j<m):m-((j:Int)+1).toNat<m-(j:Int).toNat:=by omega
theorem KI.leave {c1:CS} (h:KI w n k f mf mu md mt fs bs nm U0 ur c1) (hd:KD n k f mf mu md mt ur lo) (th:List (Tx×Bool)) {W szW:Nat} (hW:bz w W (λt=>(th.lookup t).map Value.bool) szW) (hs:szW<=c1.decl.length) (hWn:¬W=n):
  KI (w.setCell ⟨n,3,none⟩ (mP W)) n k f mf mu md W fs bs nm U0 ur { c1 with there:=th }:=by
 have b:Chg (·=n) w (w.setCell ⟨n,3,none⟩ (mP W)):=Chg.setCell (S:=(·=n)) (p:=⟨n,3,none⟩) (Chg.refl _ _) (λ_=>rfl) _;obtain⟨q,v,u,i,c⟩:=h.hf;obtain⟨sz,L,l,m,o,r,d⟩:=h.uses;have x:=hd.l;exact⟨aA (j:=3) h.hn _,by rw[b.block _ (ab h.hk) (λe=>hd.an.1 e.symm)];exact h.hk,⟨q,v,u,i,by rw[b.block _ (ab c) (by omega)];exact c⟩,h.decl.chg b (λe=>hd.an.2.2.2.1 e.symm),⟨szW,hW.chg b hWn,hs⟩,(by obtain⟨s,a⟩:=h.funcs;exact⟨s,a.chg b (λe=>hd.an.2.1 e.symm)⟩),
  ⟨sz,L,l.chg b (λe=>hd.an.2.2.1 e.symm),m,o,aY r b (λg hg e=>(hd.au g (d.symm.trans hg)).2.1 e),d⟩,h.lefts,h.usesl,h.decll,h.names⟩
def MB (n k f mf mu md mt:Nat) (fs:List Fun) (bs:List Nat) (nm:Tx) (U0:Tx->Option Value) (ur:Option Nat) (lo:Nat) (fp:Bool) (w:World) (W:Nat) (l:List Sm) (c:CS) (szW:Nat) (j:Nat) (wr:World):Prop:=
 Chg (SS n k mu md mt ur) w wr/\∃urj mtj cj,KI wr n k f mf mu md mtj fs bs nm U0 urj cj/\KD n k f mf mu md mtj urj lo/\(urj=ur\/∀g,urj=some g->w.heap.size+1<=g)/\(mtj=mt\/w.heap.size+1<=mtj)/\bz wr W (λt=>(c.there.lookup t).map Value.bool) szW /\
  sA fs fp l c=sA fs fp (l.drop j) cj/\c.decl.length<=cj.decl.length
theorem DO (fs:List Fun) (bs:List Nat) (nm:Tx) (U0:Tx->Option Value) (lo:Nat) (fp:Bool) (l:List Sm) (hst:∀x∈l,StC fs bs nm U0 lo fp x) (w:World) (n k f mf mu md mt:Nat) (ur:Option Nat) (c:CS) (v:Value) (xs:List Nat) (ln:Int)
 (hk:KI w n k f mf mu md mt fs bs nm U0 ur c) (hd:KD n k f mf mu md mt ur lo) (hf:Env w lo bs fs) (hfp:FP w f nm fp) (hown:li w (Lt lo) 195 v xs.length (xs.map pB)) (hs:cu w (Lt lo) xs l) (hwl:ye l):
  Calls prog 223 #[pB n,v,.int .i64 ln] w (lV (gY fs fp l c) n k f mf mu md mt fs bs nm U0 ur lo w):=by
 have c3:w.cell? ⟨n,3,none⟩=some (mP mt):=(ae hk.hn 3).trans rfl;obtain⟨sz,M,be⟩:=hk.there;have bf:=M;obtain⟨D,H,hT,bd,hL⟩:=bf;have bY:=hk.decll;have bG:(Builtin.len_ #[318] 3 #[mP mt]).run prog w=.ok (.int .i64 sz) w:=M.len underlying318 3;have bE:=wE w sz (by omega);have bM:=aH c3;have aj:Below w.heap.size w (w.alloc (.map #[] 0)):=az;have bu:(w.alloc (.map #[] 0)).cell? ⟨n,3,none⟩=some (mP mt):=(aj.cell (p:=⟨n,3,none⟩) bM).trans c3;have bo:=aa (bz.made w);have bp:=aa H;have bS:=aa M;have HL:=aa hL;have bt:=aa bd;have m:=aa hk;have R:=aa hown;have aP:=aa hs;have e1:(w.alloc (.map #[] 0)).heap.size=w.heap.size+1:=by simp
 have b9:=M.lt;clear hk hown hs M hL H bd
 go_enter func223,ntmps223
 go_wp2_with (first
  | (at_range;refine wpList_range_own _ rfl _ 318 rfl 9 4 pO underlying318 RV mt sz D rfl (bp.alloc _) ?_;intro w0 a8 b2 bc;have aM:=aa a8;have aK:=aa b2;have aO:=aa bc;clear a8 b2 bc))
 have i:=aM.out;have ar:=aO.out;rw[e1]at i ar;have aN:=aa i;have bR:=aa ar;have aY:Below w.heap.size w w0:=aj.grown aK.out (by simp) (λj hj=>by cases hj);have aU:bz w0 w.heap.size (nB (λt=>(c.there.lookup t).map Value.bool) (Maps.has D)) 0:=by
  rw[ww HL.out];exact bo.of_block (aK.block w.heap.size (by simp) (by simp))
 have aQ:=aa (show∃(left:Lit->Bool) (d a:Nat),w0.ranges prog 9 RV mt (w.heap.size+1) sz D left d/\a+d<=sz/\bz w0 w.heap.size (nB (λt=>(c.there.lookup t).map Value.bool) left) a/\Below w.heap.size w w0 from
  ⟨_,_,0,aN.out,by rw[bt.out];omega,aU,aY⟩)
 clear i ar bG bE c3 bu aj e1 aM aO aU aY
 go_loopw [7,8] (λ_ _ wr=>Hid (∃(left:Lit->Bool) (d a:Nat),wr.ranges prog 9 RV mt (w.heap.size+1) sz D left d/\a+d<=sz/\bz wr w.heap.size (nB (λt=>(c.there.lookup t).map Value.bool) left) a/\Below w.heap.size w wr)) (λ_ _ wr=>wr.rangeLeft mt (w.heap.size+1))
 case atStart=>exact aQ
 case round =>
  obtain⟨left,d,a,bb,bX,hW,aZ⟩:=hrel.out;clear hrel aQ;have HW:=aa hW;have A:=aa aZ;have ad:=aa bb;clear hW aZ bb
  go_wp2_with (first
   | (at_next;refine wpList_next_ranges _ rfl _ rfl 9 pO RV (λx:ByteArray=>Value.string x) (λx:Value=>x) (λkey kl h=>by obtain⟨x,h1,_⟩:=zg h;exact⟨x,h1⟩) (λv y _=>⟨v,rfl⟩) mt (w.heap.size+1) sz D left d rfl ad.out ?_ ?_))
  ·intro bw b8
   have o:bz wr w.heap.size (λt=>(c.there.lookup t).map Value.bool) a:=by have:=HW.out;rw[BM b8]at this;exact this
   obtain⟨xa,xn,xc,aw⟩:=bD R.out.1;have bK:xn=xs.length:=gx R.out.1 aw;subst bK;have bQ:w.heap.size+1<=wr.heap.size:=o.lt;have W:=aa (show MB n k f mf mu md mt fs bs nm U0 ur lo fp w w.heap.size l c a 0 wr from
    ⟨.of_below A.out,ur,mt,c,m.below A.out,hd,.inl rfl,.inl rfl,o,rfl,ag _⟩)
   have bT:=aa aw;subst aw;clear o bw b8 ad;have bN:n<w.heap.size/\k<w.heap.size/\mu<w.heap.size/\md<w.heap.size/\mt<w.heap.size/\mf<w.heap.size:=by
    obtain⟨_,_,m1,_⟩:=m.uses;obtain⟨_,m2⟩:=m.funcs;exact⟨ab m.hn,ab m.hk,m1.lt,m.decl.lt,b9,m2.lt⟩
   have N:∀g,ur=some g->g<w.heap.size:=λg hg=>by
    obtain⟨_,L,_,_,_,h5,h6⟩:=m.uses;exact uG h5 (h6.trans hg)
   have aR:=aa N;clear N;go_wp2_with fail
   go_loopw [10,32] (λ_ s32 w'=>∃j:Nat,s32=.int .i64 j/\j<=xs.length/\Hid (MB n k f mf mu md mt fs bs nm U0 ur lo fp w w.heap.size l c a j w')) (λ_ s32 _=>match s32 with | .int _ j=>xs.length-j.toNat|_=>0)
   case atStart=>exact⟨0,rfl,aV _,W⟩
   case round =>
    clear W A
    rename World=>w5
    obtain⟨j,rfl,hj,hr⟩:=hrel;obtain⟨hc,U,T,cj,an,b,au,aq,ah,ak,bA⟩:=hr.out;clear hr;have z:=SS.tree hd hc;have P:=aa hc;have Q:=aa an;have aI:=aa ak;have af:=aa ah;have B:=aa au;have ac:=aa aq;have aF:=aa (hf.onA z);have aJ:Hid (FP w5 f nm fp):=by
     obtain⟨vp,vb,bL,bx⟩:=hfp;exact⟨vp,vb,bL,z f _ hd.l.2.2.1 bx⟩
    by_cases u:j<xs.length
    ·have I:=R.on z
     obtain⟨xg,C,O⟩:∃xg C,(.slice xa xs.length xc:Value)=.slice (some ⟨xg,0,none⟩) xs.length C:=by
      rcases I.1.2 with⟨_,h0⟩|⟨xg,C,bU,O,_⟩
      ·omega
      ·exact⟨xg,C,O⟩
     have bJ:xa=some ⟨xg,0,none⟩:=by injection O
     have r:w5.cell? ⟨xg,j,none⟩=(xs.map pB)[j]?:=(O▸I.1:w5.ownsRow 0 195 1 (.slice (some ⟨xg,0,none⟩) xs.length C) xs.length (xs.map pB)).cellAt j (by omega);obtain⟨xb,x,bi,bj,av,bk⟩:=Bu (aP.onA z) u;have F:w5.cell? ⟨xg,j,none⟩=some (pB xb):=by rw[r,aG,bi];rfl
     subst bJ;have Y:decide ((j:Int)<(xs.length:Int))=true:=by simp;omega
     have b6:wrap64 ((j:Int)+1)=(j:Int)+1:=Bb (sQ (R.out.1)) u;have b5:((j:Int)+1)=((j+1:Nat):Int):=rfl;have bB:j+1<=xs.length:=u;have bm:=aa b6;have bl:=aa b5;clear b6 b5;have bF:xs.length-((j:Int)+1).toNat<xs.length-(j:Int).toNat:=ee u;have HX:=aa (hst x av w5 n k f mf mu md T U cj xb ln Q.out b aF.out aJ.out bk (wy hwl av));have V:=aa (show sA fs fp l c=(eQ fs fp x cj).bind λc'=>sA fs fp (l.drop (j+1)) c' by rw[aI.out,bj,sA]);clear hc an au aq ah ak I O r bi bj av bk z;go_wp2_with fail;refine HX.mono ?_;rintro e q ⟨S,hz⟩;have bH:U=ur\/∀g,U=some g->w.heap.size<=g:=B.imp id λh g hg=>by have:=h g hg;omega
     have bC:T=mt\/w.heap.size<=T:=ac.imp id λh=>by omega
     have aC:=aa (SS.then P.out S bH bC);cases ho:eQ fs fp x cj with
     | none =>
      rw[ho]at hz;obtain⟨c1,l1,rfl⟩:=hz;have bq:=aa ho;clear ho S F;go_wp2_with fail;refine⟨rfl,aC.out,?_⟩;rw[show gY fs fp l c=none by unfold gY;rw[V.out,bq.out];rfl];exact⟨c1,l1,rfl⟩
     | some c' =>
      rw[ho]at hz;obtain⟨rfl,aA,ax,b7,b1,bg,ba⟩:=hz;have bI:=P.size;have bW:=af.lt;have aX:bz q w.heap.size (λt=>(c.there.lookup t).map Value.bool) a:=af.chg S (λhs=>by
       rcases hs with e|e|e|e|e|e
       ·omega
       ·omega
       ·omega
       ·omega
       ·rcases ac.out with h|h<;>omega
       ·rcases B.out with h|h
        ·have:=aR.out _ (h.symm.trans e);omega
        ·have:=h _ e;omega)
      have a9:aA=ur\/∀g,aA=some g->w.heap.size+1<=g:=by
       rcases bg with h|h
       ·rw[h];exact B.out
       ·exact .inr λg hg=>by have:=h g hg;omega
      have a0:ax=mt\/w.heap.size+1<=ax:=by
       rcases ba with h|h
       ·rw[h];exact ac.out
       ·exact .inr (by omega)
      have b3:=ay bA (BH fs fp x cj c' ho);have aL:=aa (show MB n k f mf mu md mt fs bs nm U0 ur lo fp w w.heap.size l c a (j+1) q from⟨aC.out,aA,ax,c',b7,b1,a9,a0,aX,by rw[V.out,ho];rfl,b3⟩);clear ho S F b7 b1 bg ba aX a9 a0 Y;go_wp2_with fail;rw[bm.out];exact⟨⟨j+1,aB (Value.int .i64) bl.out,bB,aL⟩,bF⟩
    ·have b4:j=xs.length:=by omega
     have Y:decide ((j:Int)<(xs.length:Int))=false:=by simp;omega
     have Z:sA fs fp l c=some cj:=by
      rw[aI.out,show l.drop j=[] from by rw[b4,<- sw aP.out];simp,sA]
     have c3:w5.cell? ⟨n,3,none⟩=some (mP T):=(ae Q.hn 3).trans rfl;have f3:w5.frozen? ⟨n,3,none⟩=false:=aD w5 n 3 _ _ Q.hn;have aE:=aa Z;have bI:=P.size;clear hc an au aq ah ak z Z b4;go_wp2_with fail;go_end0;have bv:=af.out;have ao:=Q.leave (lo:=lo) b c.there bv (by have:=be;omega) (by omega);have hb:gY fs fp l c=some { cj with there:=c.there }:=by unfold gY;rw[aE.out];rfl
     have b0:Chg (SS n k mu md mt ur) w (w5.setCell ⟨n,3,none⟩ (mP w.heap.size)):=P.setCell (p:=⟨n,3,none⟩) (λ_=>.inl rfl) _;refine⟨b0,?_⟩;rw[hb];refine⟨rfl,U,w.heap.size,ao,?_,?_,.inr (ag _)⟩
     ·have hl:=hd.l
      have c0:=b.l;refine⟨⟨hl.1,hl.2.1,hl.2.2.1,hl.2.2.2.1,hl.2.2.2.2.1,hl.2.2.2.2.2.1,by omega⟩,⟨b.an.1,b.an.2.1,b.an.2.2.1,b.an.2.2.2.1,by omega⟩,⟨b.ak.1,b.ak.2.1,b.ak.2.2.1,by omega⟩,⟨b.am.1,b.am.2.1,by omega,b.am.2.2.2.1,by omega,by omega⟩,λg hg=>?_⟩;obtain⟨a1,a2,a3,a4,a5,a6,a7⟩:=b.au g hg;refine⟨a1,a2,a3,a4,a5,a6,?_⟩;rcases B.out with h|h
      ·have:=aR.out g (h.symm.trans hg);omega
      ·have:=h g hg;omega
     ·exact B.imp id λh g hg=>by have:=h g hg;omega
  ·intro x vv kl ya yb w1 aS G ap hR bV ai i u al bP bZ
   obtain⟨s,ao⟩:∃s:Tx,kl=.string s:=by obtain⟨x',_,h2⟩:=zg G;exact⟨_,h2⟩
   subst ao;have aW:bz w1 w.heap.size (nB (λt=>(c.there.lookup t).map Value.bool) left) a:=HW.of_block (al.block w.heap.size (by have:=HW.lt;exact this) (by simp));have aT:(λt:Tx=>(c.there.lookup t).map Value.bool) s=some vv:=by
    obtain⟨q1,q2⟩:=HL.out s;have hy:ya=.held vv:=hR.symm;have hp:((c.there.lookup s).map Value.bool).isSome=true:=by rw[<- q2];exact Go.Maps.has_true_of_atKey (y:=ya) ai
    obtain⟨v2,bh⟩:=iZ.1 hp;have h3:=q1 undef;rw[ai,hy,bh]at h3;have h4:vv=v2:=by injection h3
    rw[h4];exact bh
   obtain⟨w2,bO,J,am⟩:=aW.putK (t:=318) underlying318 (by unfold maxLen;omega) G vv;rw[Ab ap,Aa ap aT]at J;have K:=i.kept am (by have:=b9;simp;omega) (by simp);have E:Below w.heap.size w w1:=A.grown al (by have:=A.size;exact this) (λj hj=>by injection hj with hj;omega);have X:Below w.heap.size w w2:=E.grown am (by have:=E.size;exact this) (λj hj=>by injection hj with hj;omega);have br:=aa (show∃(left:Lit->Bool) (d a:Nat),w2.ranges prog 9 RV mt (w.heap.size+1) sz D left d/\a+d<=sz/\bz w2 w.heap.size (nB (λt=>(c.there.lookup t).map Value.bool) left) a/\Below w.heap.size w w2 from
    ⟨_,aS,a+1,K,by omega,J,X⟩)
   have bn:=aa (show w2.rangeLeft mt (w.heap.size+1)<wr.rangeLeft mt (w.heap.size+1) by rw[K.left_eq,ad.left_eq];exact u);clear aW J i K al am E X ai hR aT ap G;go_wp2_with fail
   go_roundw
   case rel=>exact br
   case measure=>exact bn.out
end Go.Proofs.YtbeaaimcpkogcaaGreatDoor
