/- Lemmas on the way to the claim. -/
import Derived.Test.YtbeaaimcpkogcaaGreatDoorM35
import Derived.Test.YtbeaaimcpkogcaaGreatDoorM40
set_option linter.unusedSimpArgs false
set_option linter.unusedVariables false
set_option maxHeartbeats 8000000
set_option maxRecDepth 100000
namespace Go.Proofs.YtbeaaimcpkogcaaGreatDoor
open Go.Proofs.Tryz Go.RowKit
variable {S:Nat->Prop} {w w' wr z z':World} {B1 B2 j k left mf ms mu n:Nat} {us:List (Tx×List Tx)} {v:Value} {P:List Tx} {bs l:List Nat} {u:Tx×List Tx} {fs:List Fun} {a:Act}
def Em (l:List Nat):List Value:=l.map λi:Nat=>Value.int .i64 (i:Int)
theorem Tryz.info3:(Tryz.prog.info? 3).map (λi=>(i.zero,i.size,i.bytes))=some (some (.int .i64 0),1,8):=by kernel_rfl
theorem ODS.chgT (h:ODS w k mf mu B1 B2 ms us) (hc:Chg S w w') (hS:∀i,i<w.heap.size->S i->(∃cur fr,w.heap[i]?=some (.cells cur 3 fr))\/i=ms) (hm:∃L sz,bz w ms L sz) (hmu:mu≠ms):ODS w' k mf mu B1 B2 ms us:=by
 obtain⟨left,m⟩:=h.hk;obtain⟨o,q,n,p⟩:=h.uses;obtain⟨L,sz,hm⟩:=hm;obtain⟨D,⟨v,f,d,_⟩,_⟩:=hm;have b:∀i cs T fr,w.heap[i]?=some (.cells cs T fr)->T≠3->¬S i:=λi cs T fr hi hT hs=>by
  rcases hS i (ab hi) hs with⟨cur,j,a⟩|rfl
  ·rw[hi]at a;injection a with a;injection a with _ e _;exact hT e
  ·rw[hi]at d;injection d with d;cases d
 refine⟨by rw[hc.block _ (ab h.b1) (b _ _ _ _ h.b1 (by decide))];exact h.b1,by rw[hc.block _ (ab h.b2) (b _ _ _ _ h.b2 (by decide))];exact h.b2,⟨left,by rw[hc.block _ (ab m) (b _ _ _ _ m (by decide))];exact m⟩,⟨o,q,n.chg hc λhs=>?_,λu hu=>aY (p u hu) hc λg hg=>?_⟩⟩
 ·rcases hS mu n.lt hs with⟨cur,j,a⟩|e
  ·obtain⟨t,⟨r,c,l,_⟩,_⟩:=n
   rw[l]at a;injection a with a;cases a
  ·exact hmu e
 ·obtain⟨cur,fr,s⟩:=bG (p u hu) hg
  exact b _ _ _ _ s (by decide)
structure OL (w:World) (k mf mu B1 B2 ms:Nat) (us:List (Tx×List Tx)) (n:Nat) (v:Value) (wr:World) (P:List Tx) (l:List Nat):Prop where
 eq:jc us n P l=jc us (us.length+1) [] []
 cnt:P.length+n=us.length+1
 len:l.length=P.length
 nd:P.Nodup
 sub:∀x∈P,x∈us.map (·.1)
 map:bz wr ms (nK P) P.length
 ods:ODS wr k mf mu B1 B2 ms us
 row:wr.ownsRow w.heap.size 3 1 v l.length (Em l)
 bel:Below w.heap.size w wr
theorem OL.below (h:OL w k mf mu B1 B2 ms us n v wr P l) (hb:Below wr.heap.size wr w'):OL w k mf mu B1 B2 ms us n v w' P l:=
 ⟨h.eq,h.cnt,h.len,h.nd,h.sub,h.map.below hb,h.ods.below hb,aY h.row (Chg.of_below (S:=λ_=>False) hb) λ_ _=>id,h.bel.trans (hb.mono h.bel.size)⟩
theorem wK (h:∀(i:Nat) (u:Tx×List Tx),us[i]?=some u->rdy u P=false):j8 us P=none:=by
 unfold j8;rw[List.findIdx?_eq_none_iff];intro u b;obtain⟨i,a⟩:=fL.1 b;exact h i u a
theorem wJ (hj:us[j]?=some u) (hr:rdy u P=true) (h:∀(i:Nat) (u:Tx×List Tx),i<j->us[i]?=some u->rdy u P=false):j8 us P=some j:=by
 unfold j8;obtain⟨b,a⟩:=aE.1 hj;rw[List.findIdx?_eq_some_iff_getElem];refine⟨b,by rw[a];exact hr,λi hi=>?_⟩;have:=h i us[i] hi (aw (by omega));unfold rdy at this;rw[this];decide
theorem Io (h:rdy u P=true):u.1 ∉ P:=by
 unfold rdy at h;simp only[bH,Bool.not_eq_true',M6,decide_eq_false_iff_not]at h;exact h.2
theorem OL.step {g:Nat} {v':Value} {w7 w8:World} (h:OL w k mf mu B1 B2 ms us (g+1) v z P l) 
 (hM7:bz w7 ms (upd (nK P) u.1 (.int .i64 1)) (if(nK P u.1).isSome then P.length else P.length+1)) (hc7:Chg (·=ms) z w7) {o:Obj} (hg8:(w7.alloc o).grownBy w8 v.ownBlock) (hown8:w8.ownsRow w.heap.size 3 1 v' (l.length+1) (Em l++[.int .i64 j]))
 (hu:us[j]?=some u) (hr:j8 us P=some j) (hout:u.1 ∉ P) (hmu:mu≠ms) (hms:w.heap.size<=ms) (hum:u.1∈us.map (·.1)):OL w k mf mu B1 B2 ms us g v' w8 (u.1::P) (l++[j]):=by
 have a:w7.ownsRow w.heap.size 3 1 v l.length (Em l):=aY h.row hc7 λq hq e=>by
  subst e;obtain⟨n,C,b⟩:=bG h.row hq;obtain⟨D,⟨B,c,r,_⟩,_⟩:=h.map;rw[r]at b;injection b with b;cases b
 have f:Chg (λi=>v.ownBlock=some i) w7 w8:=((Chg.refl _ w7).alloc _).grown hg8 λq hq _=>hq;have s:bz w7 ms (nK (u.1::P)) (P.length+1):=by
  rw[show nK P u.1=none by unfold nK;rw[ap hout],yr]at hM7;exact hM7
 have t:∀q,v.ownBlock=some q->q≠ms:=λq hq e=>by
  subst e;obtain⟨n,C,b⟩:=bG a hq;obtain⟨D,⟨B,c,r,_⟩,_⟩:=s;rw[r]at b;injection b with b;cases b
 have d:∀q,v.ownBlock=some q->w.heap.size<=q:=λq hq=>by
  rcases a.2 with⟨rfl,_⟩|⟨E,A,n,rfl,r,_⟩
  ·cases hq
  ·simp only[Value.ownBlock,aq]at hq;omega
 have m:ODS w7 k mf mu B1 B2 ms us:=h.ods.chgT hc7 (λi _ e=>.inr e) ⟨_,_,h.map⟩ hmu;refine⟨?_,by have:=h.cnt;simp;omega,by rw[ac,h.len];simp,oV.2 ⟨hout,h.nd⟩,λx y=>?_,s.chg f (λe=>t _ e rfl),m.chgT f (λi _ e=>.inl (bG a e)) ⟨_,_,s⟩ hmu,?_,?_⟩
 ·rw[<- h.eq,jc,hr]
  simp only[hu]
 ·rcases aR.1 y with rfl|y
  ·exact hum
  ·exact h.sub x y
 ·rw[ac]
  unfold Em at hown8 ⊢;rw[dT];exact hown8
 ·have p:=(Chg.of_below (S:=λi=>w.heap.size<=i) h.bel).then ((hc7.mono (S':=λi=>w.heap.size<=i) λi _ e=>by omega).then (f.mono λi _ e=>d i e))
  exact⟨p.os,p.tape,p.output,p.size,λi hi=>p.block i hi (by omega)⟩
theorem Cu (us:List (Tx×List Tx)) (hU:UsOk us) (fs:List Fun) (bs:List Nat) (hnm:us.map (·.1)=fs.map (·.name)) (lo:Nat) (w:World) (k mf mu pb left:Nat) (pv:Value) (hk:w.heap[k]?=some (.cells #[mP mf,mP mu,.int .i64 left] 281 (0,0))) (huse:∃sz L,bz w mu L sz/\∀u∈us,w.ownsRow 0 9 1 ((L u.1).getD (.slice none 0 0)) u.2.length (txs u.2)) (hP:PrgAt w lo pb pv bs fs) (hlo:lo<=w.heap.size):
  Calls prog 182 #[pB k,pB pb] w (λe w'=>Below w.heap.size w w'/\∃v,e=.returned v/\w'.ownsRow w.heap.size 3 1 v (jc us (us.length+1) [] []).length (Em (jc us (us.length+1) [] []))):=by
 have aV:=@run_makeMap prog;generalize Y:w.alloc (.cells #[pB k] 277)=w1;generalize Z:w1.alloc (.map #[] 0)=w2;generalize a0:w2.alloc (.cells #[mP (w.heap.size+1)] 110)=w3;have z1:w1.heap.size=w.heap.size+1:=by rw[<- Y];exact ah _ _
 have z2:w2.heap.size=w.heap.size+1+1:=by rw[<- Z,ah,z1]
 have z3:w3.heap.size=w.heap.size+1+1+1:=by rw[<- a0,ah,z2]
 have e1:Below w.heap.size w w1:=by rw[<- Y];exact az
 have e2:Below w1.heap.size w1 w2:=by rw[<- Z];exact az
 have e3:Below w2.heap.size w2 w3:=by rw[<- a0];exact az
 have b1:w3.heap[w.heap.size]?=some (.cells #[pB k] 277 (0,0)):=by
  rw[e3.block _ (by omega),e2.block _ (by omega),<- Y];exact af _ _
 have b2:w3.heap[w.heap.size+1+1]?=some (.cells #[mP (w.heap.size+1)] 110 (0,0)):=by
  rw[<- a0,<- z2];exact af _ _
 have n:Below w.heap.size w w3:=e1.trans ((e2.trans (e3.mono (by omega))).mono (by omega));have H:bz w3 (w.heap.size+1) (nK []) 0:=by
  have h0:bz w2 w1.heap.size (λ_=>none) 0:=by rw[<- Z];exact bz.made w1
  rw[z1]at h0;have hz:nK []=λ_=>none:=by funext t;simp[nK]
  rw[hz];exact h0.below e3
 have hO:ODS w3 k mf mu w.heap.size (w.heap.size+1+1) (w.heap.size+1) us:=by
  obtain⟨an,Lu,m1,m2⟩:=huse;exact⟨b1,b2,⟨left,by rw[n.block _ (ab hk)];exact hk⟩,⟨an,Lu,m1.below n,λu hu=>aY (m2 u hu) (Chg.of_below (S:=λ_=>False) n) λ_ _=>id⟩⟩
 have a5:=aa (show OL w k mf mu w.heap.size (w.heap.size+1+1) (w.heap.size+1) us (us.length+1) (.slice none 0 0) w3 [] [] from⟨rfl,by simp,rfl,Ee,(λx h=>by cases h),H,hO,bq _ _ _ _,n⟩);have R:mu≠w.heap.size+1:=by
  obtain⟨an,Lu,m1,m2⟩:=huse;have:=m1.lt;omega
 have hl:=nV hP.funs;obtain⟨pa,pn,pc,W⟩:=bD hP.own.1;have aC:pn=us.length:=by rw[gx hP.own.1 W,hl,<- be (f:=Fun.name),<- hnm,be]
 subst aC;have ad:bs.length=us.length:=by rw[hl,<- be (f:=Fun.name),<- hnm,be]
 have HP:=aa hP;have M:=aa W;have al:=hU.len;have aN:=hP.lt;clear hO H n b1 b2 e1 e2 e3 huse hk hP W
 go_enter func182,ntmps182
 go_wp2
 go_step3
 go_wp2
 go_step3
 go_wp2
 go_loopg [5] (us.length+1) (λg s5 wr=>∃P l,Hid (OL w k mf mu w.heap.size (w.heap.size+1+1) (w.heap.size+1) us g s5 wr P l))
 case atStart=>exact⟨[],[],a5⟩
 case round =>
  clear a5
  rename World=>w5
  obtain⟨P,l,hr⟩:=hrel;have A:=hr.out;have G:P.length<=us.length:=by
   have:=jK A.nd A.sub
   rwa [be]at this
  cases gk with
  | zero=>have:=A.cnt;omega
  | succ g =>
  have HL:=aa A;clear hr;have N:=aa (HP.onA (aX.below A.bel));have c0:w5.cell? ⟨pb,0,none⟩=some (.slice pa us.length pc):=by
   have:=N.node;rw[M.out]at this;exact(ae this 0).trans rfl
  rename_i s5;obtain⟨sa,sn,sc,aj⟩:=bD A.row;have aD:sn=l.length:=gx A.row aj;subst aD;have aq:=aa A.len;clear A;subst aj;go_wp2_with fail;have F:=aa (show∀(i:Nat) (u:Tx×List Tx),i<0->us[i]?=some u->rdy u P=false fromλi u h=>by omega);have a2:=aa (show OL w k mf mu w.heap.size (w.heap.size+1+1) (w.heap.size+1) us (g+1) (.slice sa l.length sc) w5 P l/\PrgAt w5 lo pb pv bs fs from⟨HL.out,N.out⟩);clear HL N c0
  go_loopg [5,17] us.length (λg2 s5 s17 wx=>∃j:Nat,j+g2=us.length/\s17=.int .i64 j/\s5=.slice sa l.length sc/\Hid (OL w k mf mu w.heap.size (w.heap.size+1+1) (w.heap.size+1) us (g+1) (.slice sa l.length sc) wx P l/\PrgAt wx lo pb pv bs fs)/\Hid (∀(i:Nat) (u:Tx×List Tx),i<j->us[i]?=some u->rdy u P=false))
  case atStart=>exact⟨0,by omega,rfl,rfl,a2,F⟩
  case round =>
   clear a2 F
   rename World=>w6
   obtain⟨j,aS,rfl,rfl,a,T⟩:=hrel;have K:=T;cases gk with
   | zero =>
    have aA:j=us.length:=by omega
    have a8:decide ((j:Int)<(us.length:Int))=false:=by simp;omega
    have a1:Hid (jc us (us.length+1) [] []=l):=by
     show _=_;rw[<- a.out.1.eq,jc,wK λi u hi=>K.out i u (by rw[aA];exact(aE.1 hi).1) hi]
    have b:=a;clear a T;go_wp2_with fail
    try rw[iA]
    go_ret;rw[a1.out];exact⟨b.out.1.bel,_,rfl,b.out.1.row⟩
   | succ g2 =>
    have ag:j<us.length:=by omega
    have Q:=a.out.2;have U:=Q.own;obtain⟨pg,c,r⟩:∃pg c,(.slice pa us.length pc:Value)=.slice (some ⟨pg,0,none⟩) bs.length c:=by
     rw[<- M.out];rcases U.1.2 with⟨_,h0⟩|⟨pg,c,av,r,_⟩
     ·omega
     ·exact⟨pg,c,r⟩
    have aB:pa=some ⟨pg,0,none⟩:=by injection r
    have J:w6.ownsRow 0 61 1 (.slice (some ⟨pg,0,none⟩) bs.length c) bs.length (bs.map pB):=by rw[<- r,<- M.out];exact U.1
    obtain⟨u,hu⟩:∃u,us[j]?=some u:=⟨_,aw ag⟩;obtain⟨f,hf⟩:∃f,fs[j]?=some f:=⟨_,aw (by rw[<- hl,ad];exact ag)⟩;have ak:u.1=f.name:=by
     have h1:(us.map (·.1))[j]?=some u.1:=by rw[aG,hu];rfl
     rw[hnm,aG,hf]at h1;exact(aT h1).symm
    obtain⟨fb,a9,hA,aW,vp,vb,xs,hn,_,_,_⟩:=nW Q.funs hf;have e0:w6.cell? ⟨pg,j,none⟩=some (pB fb):=by rw[J.cellAt j (by omega),aG,a9];rfl
    have f0:w6.cell? ⟨fb,0,none⟩=some (.string ⟨u.1.toArray⟩):=by rw[ak];exact(ae hn 0).trans rfl
    have a8:decide ((j:Int)<(us.length:Int))=true:=by simp;omega
    have X:=aJ hu;have HX:=aa (B6 us hU k mf mu w.heap.size (w.heap.size+1+1) (w.heap.size+1) w6 a.out.1.ods P _ a.out.1.map u X fb f0);have b:=a;have HU:=aa hu;have HN:=aa hn;have aR:fb<lo:=hA;have am:=(hU.names u X).1;have ac:j+1+g2=us.length:=by omega
    have ap:=aa (fR ((j:Int)+1) (by omega));subst aB;clear a T Q U r J hf a9 hn hA hu ak;go_wp2_with fail;refine HX.mono ?_;obtain⟨rb,d⟩:∃rb,rdy u P=rb:=⟨_,rfl⟩;rw[d];rintro e z ⟨rfl,B⟩;have s:Hid (OL w k mf mu w.heap.size (w.heap.size+1+1) (w.heap.size+1) us (g+1) (.slice sa l.length sc) z P l/\PrgAt z lo pb pv bs fs):=⟨b.out.1.below B,b.out.2.onA (aX.below B)⟩;have fz:z.cell? ⟨fb,0,none⟩=some (.string ⟨u.1.toArray⟩):=(B.cell (p:=⟨fb,0,none⟩) (aH f0)).trans f0;clear B b e0 f0;cases rb with
    | false =>
     have a4:Hid (∀(i:Nat) (u:Tx×List Tx),i<j+1->us[i]?=some u->rdy u P=false):=λi v hi hv=>by
      by_cases e:i=j
      ·have h1:us[j]?=some v:=e▸hv
       have h2:u=v:=aT (HU.symm.trans h1);rw[<- h2];exact d
      ·exact K.out i v (Nat.lt_of_le_of_ne (Nat.le_of_lt_succ hi) e) hv
     clear d fz;go_wp2_with fail
     go_roundg g2
     case measure=>exact cI _
     case rel=>exact⟨j+1,ac,by simp[ap.out],rfl,s,a4⟩
    | true =>
     have I:=Io d;have aQ:z.cell? ⟨w.heap.size+1+1,0,none⟩=some (mP (w.heap.size+1)):=(ae s.out.1.ods.b2 0).trans rfl;obtain⟨w7,aO,a7,a6⟩:=(s.out.1.map.below (ai _ _).drew).put (t:=110) underlying110 (oU (ay G al) (by decide)) am (.int .i64 1);have m:=aa (s.out.1.below (ai _ _).drew);have C:Chg (·=w.heap.size+1) z.drew w7:=(Chg.refl _ _).grown a6 (λi hi _=>(aT hi).symm);have o:w7.ownsRow w.heap.size 3 1 (.slice sa l.length sc) l.length (Em l):=aY m.row C λq hq e=>by
      subst e;obtain⟨av,fr,hh⟩:=bG m.row hq;obtain⟨D,⟨es,au,hb,_⟩,_⟩:=m.map;rw[hb]at hh;injection hh with hh;cases hh
     have O:=aa o;have ao:=aa C;have ar:=aa a7;have y:=aa (wJ HU.out d K.out);have a3:=aa I;obtain⟨i0,ax,aF,aI,aK⟩:=cX Tryz.info3;have aP:w.heap.size<=w7.heap.size:=ay m.bel.size C.size;have aU:l.length<=200:=by rw[aq.out];exact ay G al
     clear I a7 a6 C o d HX;go_wp2_with fail
     go_still_tail 5,(by kernel_rfl)
     change wpList _ _ _ _ _ z.drew
     go_wp2_with (at_builtin;refine wpList_append_lies _ rfl _ _ 202 rfl w.heap.size 3 i0 (.int .i64 0) 1 8 underlying202 ax aF aI aK rfl (by decide) _ _ _ rfl (O.alloc _) ⟨w7.heap.size,0,none⟩ 1 1 [.int .i64 j] rfl rfl (eu w7 _ _) (by simp[Value.oneCell']) (by decide) (by unfold maxLen;omega) (by omega) (by rw[ah];omega) (w7.heap.size+1) (by simp) ?_;intro gg c w8 V E aL aM)
     go_roundg g
     case measure=>exact cI _
     case rel=>exact⟨u.1::P,l++[j],aa (OL.step m.out ar.out ao.out E V HU.out y.out a3.out R (ft _) (bM.2 ⟨u,X,rfl⟩))⟩
theorem AX (p q:Addr) (w:World):
  CallsD prog 179 #[.pointer (some p),.pointer (some q)] .returning w λe u' w'=>e=.returned (.tuple #[])/\u'=.returning/\w'=w:=by
 refine callsD_of_wpS func179 rfl λc₀ cs hu=>?_;simp only[ntmps179,List.size_toArray,aC,aW,Nat.reduceAdd,Nat.reduceSub,Array.replicate_succ,Array.replicate_zero,List.push_toArray,List.append_toArray,bh,bB];apply wpS_seq;apply wpS_region;simp[wpOpsS,go_sem,recoverD,hu,Exit.thenS];refine wpS_of_wp ?_;go_wp2_with fail;cases c₀
 simp_all [bodyPostS,results,Tryz.results179,Exit.thenS]
theorem AY (B1 B2:Nat) (x y:Value) (w:World) (c l:Int) (hb1:w.heap[B1]?=some (.cells #[x] 202 (0,0))) (hb2:w.heap[B2]?=some (.cells #[y] 52 (0,0))):
  CallsD prog 179 #[pB B1,pB B2] (.panicking [{ v:=.iface 276 (.agg #[.int .i64 c,.int .i64 l]),recovered:=false }]) w λe u' w' =>
   e=.returned (.tuple #[])/\u'=.panicking [{ v:=.iface 276 (.agg #[.int .i64 c,.int .i64 l]),recovered:=true }]/\w'=((w.setCell ⟨B1,0,none⟩ (.slice none 0 0)).setCell ⟨B2,0,none⟩ (pB w.heap.size)).alloc (.cells #[.int .i64 c,.int .i64 l] 122):=by
 have b:∀w:World,(Instr.typeAssert (.iface 276 (.agg #[.int .i64 c,.int .i64 l])) 20 276 false).run prog w=.ok (.agg #[.int .i64 c,.int .i64 l]) w:=λ_=>by kernel_rfl
 have a:∀w:World,(Instr.field 276 (.agg #[.int .i64 c,.int .i64 l]) 0).run prog w=.ok (.agg #[.int .i64 c,.int .i64 l]) w:=λ_=>by kernel_rfl
 have j:=ab hb1;have k:=ab hb2;have ne:B2≠B1:=λe=>by
  subst e;rw[hb1]at hb2;injection hb2 with h;injection h with _ h _;exact absurd h (by decide)
 have g:w.cell? ⟨B1,0,none⟩=some x:=(ae hb1 0).trans rfl;have i:w.cell? ⟨B2,0,none⟩=some y:=(ae hb2 0).trans rfl;have d:=aD w B1 0 _ _ hb1;have f:=aD w B2 0 _ _ hb2;refine callsD_of_wpS func179 rfl λc₀ cs hu=>?_;simp only[ntmps179,List.size_toArray,aC,aW,Nat.reduceAdd,Nat.reduceSub,Array.replicate_succ,Array.replicate_zero,List.push_toArray,List.append_toArray,bh,bB];apply wpS_seq;apply wpS_region;simp[wpOpsS,go_sem,recoverD,hu,Exit.thenS];refine wpS_of_wp ?_;go_wp2_with fail;simp[bodyPostS,results,Tryz.results179]
def kA (fs:List Fun) (w:World) (e:Ending) (w':World):Prop:=
 Below w.heap.size w w'/\match eJ fs with
 | some l=>∃v,e=.returned (.tuple #[v,.pointer none])/\w'.ownsRow w.heap.size 3 1 v l.length (Em l)
 | none=>∃(b:Nat) (c ln:Int),e=.returned (.tuple #[.slice none 0 0,pB b])/\w'.heap[b]?=some (.cells #[.int .i64 c,.int .i64 ln] 122 (0,0))
structure RVar (w z:World):Prop where
 bel:Below w.heap.size w z
 b1:∃x,z.heap[w.heap.size]?=some (.cells #[x] 202 (0,0))
 b2:∃y,z.heap[w.heap.size+1]?=some (.cells #[y] 52 (0,0))
theorem RVar.below (h:RVar w z) (hb:Below z.heap.size z z'):RVar w z':=by
 obtain⟨x,a⟩:=h.b1;obtain⟨y,b⟩:=h.b2;exact⟨h.bel.trans (hb.mono h.bel.size),⟨x,by rw[hb.block _ (ab a)];exact a⟩,⟨y,by rw[hb.block _ (ab b)];exact b⟩⟩
theorem RVar.chg (h:RVar w z) (hc:Chg S z z') (hS:∀i,S i->w.heap.size+2<=i):RVar w z':=by
 obtain⟨x,b⟩:=h.b1;obtain⟨y,c⟩:=h.b2;refine⟨?_,⟨x,by rw[hc.block _ (ab b) (λe=>by have:=hS _ e;omega)];exact b⟩,⟨y,by rw[hc.block _ (ab c) (λe=>by have:=hS _ e;omega)];exact c⟩⟩;have a:=(Chg.of_below (S:=λi=>w.heap.size<=i) h.bel).then (hc.mono λi _ e=>by have:=hS _ e;omega);exact⟨a.os,a.tape,a.output,a.size,λi hi=>a.block i hi (by omega)⟩
theorem ra (c l:Int) (h2:a.tmps.getD 2 undef=pB w.heap.size) (h3:a.tmps.getD 3 undef=pB (w.heap.size+1)) (hd:a.defers=[{ target:=.fn (.func 179) #[pB w.heap.size,pB (w.heap.size+1)],args:=#[] }]) (hr:RVar w z) (hno:eJ fs=none):
  bodyPostD prog Tryz.f123 (kA fs w) (Exit.panic [{ v:=.iface 276 (.agg #[.int .i64 c,.int .i64 l]),recovered:=false }]) a z:=by
 obtain⟨x,A⟩:=hr.b1;obtain⟨y,B⟩:=hr.b2;obtain⟨tmps,defers⟩:=a;simp only at h2 h3 hd;subst hd;have E:=ab A;have F:=ab B;have C:=hr.bel.size;refine leaves_cons (f:=179) (args:=#[pB w.heap.size,pB (w.heap.size+1)]) (by simp) (by simp[go_sem]) ?_;refine(AY w.heap.size (w.heap.size+1) x y z c l A B).mono ?_;rintro e G D ⟨rfl,rfl,rfl⟩;have u:(z.setCell ⟨w.heap.size,0,none⟩ (.slice none 0 0)).heap[w.heap.size]?=some (.cells #[.slice none 0 0] 202 (0,0)):=aA (j:=0) A _;have d:((z.setCell ⟨w.heap.size,0,none⟩ (.slice none 0 0)).setCell ⟨w.heap.size+1,0,none⟩ (pB z.heap.size)).heap[w.heap.size]?=some (.cells #[.slice none 0 0] 202 (0,0)):=by
  rw[aM _ _ _ _ (by show w.heap.size≠w.heap.size+1;omega)];exact u
 have m:((z.setCell ⟨w.heap.size,0,none⟩ (.slice none 0 0)).setCell ⟨w.heap.size+1,0,none⟩ (pB z.heap.size)).heap[w.heap.size+1]?=some (.cells #[pB z.heap.size] 52 (0,0)):=by
  refine aA (j:=0) (cs:=#[y]) ?_ _;rw[aM _ _ _ _ (by show w.heap.size+1≠w.heap.size;omega)];exact B
 have s:((z.setCell ⟨w.heap.size,0,none⟩ (.slice none 0 0)).setCell ⟨w.heap.size+1,0,none⟩ (pB z.heap.size)).heap.size=z.heap.size:=by simp[World.setCell]
 have n:Chg (λi=>w.heap.size<=i) w ((z.setCell ⟨w.heap.size,0,none⟩ (.slice none 0 0)).setCell ⟨w.heap.size+1,0,none⟩ (pB z.heap.size)):=((Chg.of_below hr.bel).setCell (p:=⟨w.heap.size,0,none⟩) (λ_=>ag _) _).setCell (p:=⟨w.heap.size+1,0,none⟩) (λ_=>ft _) _;generalize(z.setCell ⟨w.heap.size,0,none⟩ (.slice none 0 0)).setCell ⟨w.heap.size+1,0,none⟩ (pB z.heap.size)=q at d m s n;have t:=(ai q.heap.size q).alloc (ag _) (.cells #[.int .i64 c,.int .i64 l] 122);have k:=af q (.cells #[.int .i64 c,.int .i64 l] 122);have g:=(t.block _ (ab d)).trans d;have h:=(t.block _ (ab m)).trans m;have b:=n.on t;generalize q.alloc (.cells #[.int .i64 c,.int .i64 l] 122)=q2 at t k g h b;have c1:q2.cell? ⟨w.heap.size,0,none⟩=some (.slice none 0 0):=(ae g 0).trans rfl;have c2:q2.cell? ⟨w.heap.size+1,0,none⟩=some (pB z.heap.size):=(ae h 0).trans rfl;have o:kA fs w (.returned (.tuple #[.slice none 0 0,pB z.heap.size])) q2:=by
  refine⟨⟨b.os,b.tape,b.output,b.size,λi hi=>b.block i hi (by omega)⟩,?_⟩;rw[hno];exact⟨z.heap.size,c,l,rfl,by rw[<- s];exact k⟩
 have r:(results Tryz.f123 tmps).run prog q2=.ok (.tuple #[.slice none 0 0,pB z.heap.size]) q2:=by
  rw[Array.getD_eq_getD_getElem?]at h2 h3;simp[results,Tryz.results123,go_sem,h2,h3,c1,c2]
 simp only[settle,List.dropWhile_nil];exact⟨_,r,o⟩
theorem LC {P:Program} {ops:Array Oper} {u:World} {o:Oper} {b:Bool} {x:Operand} {t:Nat} (ho:o.op=.unOp .not t x) (hg:o.guard=none) (hv:a.eval x=.bool b):YieldsAt P ops u o (.bool (!b)) a:=by
 refine .inl ⟨by simp[Region.wanted,hg],.inl ?_⟩;unfold execOp;rw[ho];simp only[hv];rfl
theorem uE {b b':Nat} {e:TypeId} {size:Nat} {xs:List Value} (h:w.ownsRow b e size v n xs) (hb:b'<=b):w.ownsRow b' e size v n xs:=by
 refine⟨h.1,?_⟩;rcases h.2 with h|⟨g,a,c,rfl,d,r⟩
 ·exact .inl h
 ·exact .inr ⟨g,a,c,rfl,ay hb d,r⟩
theorem DC (h2:a.tmps.getD 2 undef=pB w.heap.size) (h3:a.tmps.getD 3 undef=pB (w.heap.size+1)) (hd:a.defers=[{ target:=.fn (.func 179) #[pB w.heap.size,pB (w.heap.size+1)],args:=#[] }]) (hx:z.heap[w.heap.size]?=some (.cells #[v] 202 (0,0))) (hy:z.heap[w.heap.size+1]?=some (.cells #[.pointer none] 52 (0,0))) (hfin:kA fs w (.returned (.tuple #[v,.pointer none])) z):
  bodyPostD prog Tryz.f123 (kA fs w) Exit.ret a z:=by
 obtain⟨tmps,defers⟩:=a;simp only at h2 h3 hd;subst hd;refine leaves_cons (f:=179) (args:=#[pB w.heap.size,pB (w.heap.size+1)]) (by simp) (by simp[go_sem]) ?_;refine(AX ⟨w.heap.size,0,none⟩ ⟨w.heap.size+1,0,none⟩ z).mono ?_;rintro e d b ⟨rfl,rfl,rfl⟩;have c1:b.cell? ⟨w.heap.size,0,none⟩=some v:=(ae hx 0).trans rfl;have c2:b.cell? ⟨w.heap.size+1,0,none⟩=some (.pointer none):=(ae hy 0).trans rfl;have c:(results Tryz.f123 tmps).run prog b=.ok (.tuple #[v,.pointer none]) b:=by
  rw[Array.getD_eq_getD_getElem?]at h2 h3;simp[results,Tryz.results123,go_sem,h2,h3,c1,c2]
 exact⟨_,c,hfin⟩
theorem nT (h:fJ fs=true):(fs.map (·.name)).Nodup:=by
 unfold fJ at h;simp only[bH,bw]at h;exact h.1.2
theorem xt (h:fJ fs=true):fs.length<=200:=by
 unfold fJ at h;simp only[bH,bw]at h;exact h.1.1
theorem sd {fs:List Fun}:∀{l:List Fun} {left:Nat} {us:List (List Tx)},fh fs l left=some us->us.length=l.length/\∀(i:Nat) (u:List Tx),us[i]?=some u->∃f n m,l[i]?=some f/\rx fs f n=some (m,u)
 | [],_,us,h=>by
  rw[fh]at h;cases h;exact⟨rfl,λi u hu=>by simp at hu⟩
 | f::l,left,us,h=>by
  rw[fh]at h;cases ho:rx fs f left with
  | none=>rw[ho]at h;cases h
  | some r =>
   rw[ho]at h;simp only[aj]at h;cases ho2:fh fs l r.1 with
   | none=>rw[ho2]at h;cases h
   | some us2 =>
    rw[ho2]at h;simp only[aj,aq]at h;subst h;obtain⟨a,b⟩:=sd ho2;refine⟨by rw[aC,aC,a],λi u hu=>?_⟩;cases i with
    | zero =>
     simp only[List.getElem?_cons_zero,aq]at hu;exact⟨f,left,r.1,rfl,by rw[<- hu];exact ho⟩
    | succ i =>
     simp only[List.getElem?_cons_succ]at hu ⊢;exact b i u hu
theorem wg {α β:Type}:∀{a:List α} {b:List β},a.length=b.length->(a.zip b).map (·.1)=a
 | [],_,_=>rfl
 | x::a,y::b,h=>by rw[List.zip_cons_cons,dX,wg (by simpa using h)]
 | _::_,[],h=>by simp at h
theorem we {α β:Type} {a:List α} {b:List β} {u:α×β} (h:u∈a.zip b):∃i:Nat,a[i]?=some u.1/\b[i]?=some u.2:=by
 obtain⟨i,c⟩:=fL.1 h;rw[List.getElem?_zip_eq_some]at c;exact⟨i,c.1,c.2⟩
theorem LF {us:List (List Tx)} (hh:fJ fs=true) (hb:fh fs fs left=some us) (hw:∀f∈fs,FunW f) (hu:∀u∈us,u.length<=1000000):UsOk ((fs.map (·.name)).zip us):=by
 obtain⟨j,p⟩:=sd hb;have k:((fs.map (·.name)).zip us).map (·.1)=fs.map (·.name):=wg (by rw[be,j]);refine⟨by rw[k];exact nT hh,by rw[List.length_zip,be,j];have:=xt hh;omega,λu hm=>?_,λu hm g hg=>?_⟩
 ·obtain⟨i,l,h⟩:=we hm
  refine⟨?_,hu _ (aJ h)⟩;obtain⟨f,c,d⟩:=bM.1 (aJ l);rw[<- d];exact(hw f c).name
 ·obtain⟨i,l,h⟩:=we hm
  obtain⟨f,n,m,x,t⟩:=p i _ h;obtain⟨_,_,w,_⟩:=DN t;have a:=w g hg;have b:g∈fs.map (·.name):=by
   unfold km at a;rw[List.find?_isSome]at a;obtain⟨o,r,s⟩:=a;exact bM.2 ⟨o,r,bm s⟩
  rw[<- k]at b;obtain⟨v,q,e⟩:=bM.1 b;exact⟨v,q,e⟩
theorem KG.usesz {us:List (List Tx)} (h:KG w k mf mu fs bs left us):∃sz L,bz w mu L sz/\∀u∈(fs.map (·.name)).zip us,w.ownsRow 0 9 1 ((L u.1).getD (.slice none 0 0)) u.2.length (txs u.2):=by
 obtain⟨sz,L,b,e,c,g⟩:=h.uses;refine⟨sz,L,b,λu hm=>?_⟩;obtain⟨i,a,d⟩:=we hm;rw[aG]at a;cases hf:fs[i]? with
 | none=>rw[hf]at a;cases a
 | some f =>
  rw[hf]at a;have:f.name=u.1:=by simpa using a
  rw[<- this];exact c i f u.2 hf d
structure KGL (fs:List Fun) (bs:List Nat) (w:World) (pb:Nat) (pv:Value) (k mf mu:Nat) (j:Nat) (wr:World) (left:Nat) (us:List (List Tx)):Prop where
 rv:RVar w wr
 kg:KG wr k mf mu fs bs left us
 len:us.length=j
 eq:fh fs fs 65536=(fh fs (fs.drop j) left).bind λr=>some (us++r)
 prg:PrgAt wr w.heap.size pb pv bs fs
 env:Env wr w.heap.size bs fs
structure RGW (fs:List Fun) (bs:List Nat) (w:World) (pb:Nat) (pv:Value) (k mf mu:Nat) (left:Nat) (us:List (List Tx)) (j:Nat) (wr:World):Prop where
 rv:RVar w wr
 kg:KG wr k mf mu fs bs left us
 prg:PrgAt wr w.heap.size pb pv bs fs
 no:∀(i:Nat) (u:Tx×List Tx),i<j->((fs.map (·.name)).zip us)[i]?=some u->¬Rch ((fs.map (·.name)).zip us) u.1 u.1
theorem RGW.below {pb:Nat} {pv:Value} {us:List (List Tx)} (h:RGW fs bs w pb pv k mf mu left us j wr) (hb:Below wr.heap.size wr w'):RGW fs bs w pb pv k mf mu left us j w':=
 ⟨h.rv.below hb,h.kg.below hb,h.prg.onA (aX.below hb),h.no⟩
theorem xV {f:Fun} (h:fs[j]?=some f) (left:Nat):fh fs (fs.drop j) left=(rx fs f left).bind λr=>(fh fs (fs.drop (j+1)) r.1).bind λus=>some (r.2::us):=by
 obtain⟨b,a⟩:=aE.1 h;rw[Ef b,a,fh]
theorem rc (fs:List Fun) (bs:List Nat) (w:World) (pb:Nat) (pv:Value) (hP:PrgAt w w.heap.size pb pv bs fs) (hw:∀f∈fs,FunW f) (hE:Env w w.heap.size bs fs):
  Calls prog 123 #[pB pb] w (kA fs w):=by
 have cc:=@run_makeMap prog;have cb:∀(fn:Fn) (first k:Array Value) (w:World),(Instr.makeFunc fn first k).run prog w=.ok (.func fn first k) w:=λ_ _ _ _=>rfl;generalize b6:w.alloc (.cells #[.slice none 0 0] 202)=w1;generalize b7:w1.alloc (.cells #[.pointer none] 52)=w2;generalize b8:w2.alloc (.map #[] 0)=w3;generalize b9:w3.alloc (.map #[] 0)=w4;generalize ba:w4.alloc (.cells #[mP (w.heap.size+1+1),mP (w.heap.size+1+1+1),.int .i64 65536] 281)=w5;have z1:w1.heap.size=w.heap.size+1:=by rw[<- b6];exact ah _ _
 have z2:w2.heap.size=w.heap.size+1+1:=by rw[<- b7,ah,z1]
 have z3:w3.heap.size=w.heap.size+1+1+1:=by rw[<- b8,ah,z2]
 have z4:w4.heap.size=w.heap.size+1+1+1+1:=by rw[<- b9,ah,z3]
 have z5:w5.heap.size=w.heap.size+1+1+1+1+1:=by rw[<- ba,ah,z4]
 have e1:Below w.heap.size w w1:=by rw[<- b6];exact az
 have e2:Below w1.heap.size w1 w2:=by rw[<- b7];exact az
 have e3:Below w2.heap.size w2 w3:=by rw[<- b8];exact az
 have e4:Below w3.heap.size w3 w4:=by rw[<- b9];exact az
 have e5:Below w4.heap.size w4 w5:=by rw[<- ba];exact az
 have aR:Below w2.heap.size w2 w5:=e3.trans ((e4.trans (e5.mono (by omega))).mono (by omega));have U:Below w1.heap.size w1 w5:=e2.trans (aR.mono (by omega));have aQ:Below w.heap.size w w5:=e1.trans (U.mono (by omega));have bA:RVar w w5:=⟨aQ,⟨_,by rw[U.block _ (by omega),<- b6];exact af _ _⟩,⟨_,by rw[aR.block _ (by omega),<- b7,<- z1];exact af _ _⟩⟩;have aH:bz w5 (w.heap.size+1+1) (λ_=>none) 0:=by
  have h0:bz w3 w2.heap.size (λ_=>none) 0:=by rw[<- b8];exact bz.made w2
  rw[z2]at h0;exact(h0.below e4).below e5
 have aI:bz w5 (w.heap.size+1+1+1) (λ_=>none) 0:=by
  have h0:bz w4 w3.heap.size (λ_=>none) 0:=by rw[<- b9];exact bz.made w3
  rw[z3]at h0;exact h0.below e5
 have aW:w5.heap[w.heap.size+1+1+1+1]?=some (.cells #[mP (w.heap.size+1+1),mP (w.heap.size+1+1+1),.int .i64 (65536:Nat)] 281 (0,0)):=by rw[<- ba,<- z4];exact af _ _
 have a5:KGD (w.heap.size+1+1+1+1) (w.heap.size+1+1) (w.heap.size+1+1+1) w.heap.size:=⟨⟨by omega,by omega,by omega⟩,by omega,by omega,by omega⟩;have HX:=aa (Da fs bs w.heap.size w5 (w.heap.size+1+1+1+1) (w.heap.size+1+1) (w.heap.size+1+1+1) pb 65536 pv aW aH (hP.onA (aX.below aQ)) a5 hw);have bL:=aa bA;have bd:=aa aW;have bg:=aa aI;have HP:=aa hP;have HE:=aa hE;have HW:=aa hw;have au:=aa a5;clear hP hE hw a5 aW aI aH bA aQ U aR e1 e2 e3 e4 e5
 go_enter_defers func123,ntmps123
 go_wp2_with fail;refine HX.mono ?_;rintro e z ⟨hc,hz⟩;have am:=aa (bL.chg hc λi e=>by omega)
 by_cases m:fJ fs=true
 ·rw[ax m]at hz
  obtain⟨rfl,c3,bw⟩:=hz;have bT:=au.out;have HH:=aa m;have c7:w.heap.size<=w5.heap.size:=by omega
  have bt:Chg (λi=>i=w.heap.size+1+1) w5 z:=hc;have bo:KG z (w.heap.size+1+1+1+1) (w.heap.size+1+1) (w.heap.size+1+1+1) fs bs 65536 []:=by
   refine⟨by rw[hc.block _ (ab bd.out) (by omega)];exact bd.out,⟨c3,bw⟩,⟨0,_,bg.chg hc (by omega),by omega,λj f u _ X=>by simp at X,λt _=>rfl⟩,ag _,λu X=>by cases X⟩
  have N:=aa (show KGL fs bs w pb pv (w.heap.size+1+1+1+1) (w.heap.size+1+1) (w.heap.size+1+1+1) 0 z 65536 [] from⟨am.out,bo,rfl,by
   rw[List.drop_zero];cases fh fs fs 65536<;>rfl,HP.onA (aX.below am.bel),HE.onA (aX.below am.bel)⟩)
  have hl:=nV HP.funs;obtain⟨pa,pn,pc,ao⟩:=bD HP.own.1;have bW:pn=fs.length:=by rw[gx HP.own.1 ao,hl]
  subst bW;have a2:=aa ao;have c0:z.cell? ⟨pb,0,none⟩=some (.slice pa fs.length pc):=by
   have:=N.prg.node;rw[ao]at this;exact(ae this 0).trans rfl
  have aF:fs.length<=maxLen:=by rw[<- hl];exact sQ HP.own.1
  have HL:=aa hl;clear hc m bt bo bw ao hl bT;go_wp2_with fail
  go_loopw [6,26] (λ_ s26 wr=>∃j:Nat,s26=.int .i64 j/\j<=fs.length/\∃left E,Hid (KGL fs bs w pb pv (w.heap.size+1+1+1+1) (w.heap.size+1+1) (w.heap.size+1+1+1) j wr left E)) (λ_ s26 _=>match s26 with | .int _ j=>fs.length-j.toNat|_=>0)
  case atStart=>exact⟨0,rfl,aV _,_,_,N⟩
  case round =>
   clear N c0
   rename World=>w6
   obtain⟨j,rfl,hj,left,E,J⟩:=hrel;have b0:=nT HH.out
   by_cases hlt:j<fs.length
   ·have O:=J.out.prg.own
    obtain⟨Q,k,x⟩:∃Q k,(.slice pa fs.length pc:Value)=.slice (some ⟨Q,0,none⟩) bs.length k:=by
     rw[<- a2.out];rcases O.1.2 with⟨_,h0⟩|⟨Q,k,F,x,_⟩
     ·have:=HL.out;omega
     ·exact⟨Q,k,x⟩
    have b2:pa=some ⟨Q,0,none⟩:=by injection x
    have d:w6.ownsRow 0 61 1 (.slice (some ⟨Q,0,none⟩) bs.length k) bs.length (bs.map pB):=by rw[<- x,<- a2.out];exact O.1
    obtain⟨f,hf⟩:∃f,fs[j]?=some f:=⟨_,aw hlt⟩;obtain⟨L,V⟩:∃b,bs[j]?=some b:=⟨_,aw (by rw[HL.out];exact hlt)⟩;have e0:w6.cell? ⟨Q,j,none⟩=some (pB L):=by rw[d.cellAt j (by rw[HL.out];omega),aG,V];rfl
    have aC:decide ((j:Int)<(fs.length:Int))=true:=by simp;omega
    have HB:=aa (F4 fs bs w.heap.size w6 (w.heap.size+1+1+1+1) (w.heap.size+1+1) (w.heap.size+1+1+1) L left j f E J.out.kg au.out J.out.env J.out.len hf V b0 (HW.out f (aJ hf)));have HR:=J;have a0:=aa (xV hf left);have aZ:fs.length-((j:Int)+1).toNat<fs.length-(j:Int).toNat:=ee hlt;have aK:=aa (fR ((j:Int)+1) (by unfold maxLen at aF;omega));have aU:j+1<=fs.length:=hlt;subst b2;clear O x d hf V J b0;go_wp2_with fail;refine HB.mono ?_;rintro e q ⟨aS,hq⟩;have H:=aa (HR.rv.chg aS λi e=>by omega);cases B:rx fs f left with
    | none =>
     rw[B]at hq;obtain⟨c1,l1,rfl⟩:=hq;have a1:=aa (show eJ fs=none by unfold eJ;rw[ax HH.out,HR.eq,a0.out,B];rfl);clear B aS;go_wp2_with fail;exact ra c1 l1 rfl rfl rfl H.out a1.out
    | some r =>
     obtain⟨ak,u⟩:=r;rw[B]at hq;obtain⟨rfl,bv⟩:=hq;have a3:=aa (show KGL fs bs w pb pv (w.heap.size+1+1+1+1) (w.heap.size+1+1) (w.heap.size+1+1+1) (j+1) q ak (E++[u]) from⟨H.out,bv,by rw[ac,HR.len];rfl,by
      rw[HR.eq,a0.out,B];simp only[aj];cases fh fs (fs.drop (j+1)) ak with
      | none=>rfl
      | some r=>simp,HP.onA (aX.below H.bel),HE.onA (aX.below H.bel)⟩)
     clear B aS bv e0;go_wp2_with fail
     try rw[aK.out]
     exact⟨⟨j+1,by simp,aU,_,_,a3⟩,aZ⟩
   ·have bu:j=fs.length:=by omega
    have aC:decide ((j:Int)<(fs.length:Int))=false:=by simp;omega
    have a6:fh fs fs 65536=some E:=by rw[J.out.eq,bu,List.drop_length,fh];simp
    have b5:=LF HH.out a6 HW.out J.out.kg.usesl;have P:E.length=fs.length:=by rw[J.out.len,bu]
    have a8:((fs.map (·.name)).zip E).map (·.1)=fs.map (·.name):=wg (by rw[be,P]);have bH:((fs.map (·.name)).zip E).length=fs.length:=by rw[List.length_zip,be,P];omega
    have HO:=aa (Cu _ b5 fs bs a8 w.heap.size w6 (w.heap.size+1+1+1+1) (w.heap.size+1+1) (w.heap.size+1+1+1) pb left pv J.out.kg.hk J.out.kg.usesz J.out.prg J.out.rv.bel.size);have aO:=aa b5;have ar:=aa a6;have c4:=aa a8;have a4:=aa bH;have HR:=J;clear a6 b5 P a8 bH J b0;go_wp2_with fail;refine HO.mono ?_;rintro e q ⟨an,v,rfl,d⟩;obtain⟨R,b1⟩:∃R,jc ((fs.map (·.name)).zip E) (((fs.map (·.name)).zip E).length+1) [] []=R:=⟨_,rfl⟩;rw[b1]at d;have aL:=aa b1;clear b1;have H:=aa (HR.rv.below an);obtain⟨sa,sn,sc,bB⟩:=bD d;have bX:=gx d bB;subst bX;subst bB;obtain⟨x1,W⟩:=H.b1;obtain⟨x2,bF⟩:=H.b2;have p1:q.cell? ⟨w.heap.size,0,none⟩=some x1:=(ae W 0).trans rfl;have f1:=aD q w.heap.size 0 _ _ W;have c8:=aa (HR.prg.onA (aX.below an));have bJ:=aa (HR.kg.below an);have av:=aa d;have bN:=aa W;have bl:=aa bF;have bU:=ab W;have bk:=aa (show∀g F fr T,q.heap[g]?=some (.cells F T fr)->T≠202->g≠w.heap.size fromλg F fr T h hT e=>by
     subst e;rw[W]at h;injection h with h;injection h with _ h _;exact hT h.symm)
    clear an d W bF;go_wp2_with fail;generalize b3:q.setCell ⟨w.heap.size,0,none⟩ (.slice sa R.length sc)=q2;have a7:Chg (·=w.heap.size) q q2:=by rw[<- b3];exact(Chg.refl (·=w.heap.size) q).setCell (p:=⟨w.heap.size,0,none⟩) (λ_=>rfl) _
    have aq:q2.heap[w.heap.size]?=some (.cells #[.slice sa R.length sc] 202 (0,0)):=by rw[<- b3];exact aA (j:=0) bN.out _
    have bb:q2.heap[w.heap.size+1]?=some (.cells #[x2] 52 (0,0)):=by rw[a7.block _ (ab bl.out) (by omega)];exact bl.out
    have ad:RVar w q2:=by
     have m:=(Chg.of_below (S:=λi=>w.heap.size<=i) H.bel).then (a7.mono λi _ e=>by omega);exact⟨⟨m.os,m.tape,m.output,m.size,λi hi=>m.block i hi (by omega)⟩,⟨_,aq⟩,⟨_,bb⟩⟩
    have ay:=aa ad;have bm:=aa aq;have bn:=aa bb;have bi:=aa (HP.onA (aX.below ad.bel));have bf:=aa (bJ.chg a7 (by omega) (by omega) (by omega) (λg F fr h=>bk.out g F fr 9 h (by decide)));have aN:=aa (aY av.out a7 λg hg=>by
     obtain⟨F,fr,m⟩:=bG av.out hg;exact bk.out g F fr 3 m (by decide))
    have bI:q2.cell? ⟨w.heap.size,0,none⟩=some (.slice sa R.length sc):=(ae aq 0).trans rfl;have aP:q2.cell? ⟨pb,0,none⟩=some (.slice pa fs.length pc):=by
     have:=bi.node;rw[a2.out]at this;exact(ae this 0).trans rfl
    clear b3 a7 aq bb ad p1 f1 bU
    by_cases hfull:R.length<fs.length
    ·have bQ:decide ((R.length:Int)<(fs.length:Int))=true:=by simp;omega
     go_quiet (fail)
     have G:Below q2.heap.size q2 (q2.drewN nq):=⟨rfl,rfl,rfl,ag _,λ_ _=>rfl⟩;have N:Hid (RGW fs bs w pb pv (w.heap.size+1+1+1+1) (w.heap.size+1+1) (w.heap.size+1+1+1) left E 0 (q2.drewN nq)):=⟨ay.below G,bf.below G,bi.onA (aX.below ⟨rfl,rfl,rfl,ag _,λ_ _=>rfl⟩),λi u h=>by omega⟩;have U:(q2.drewN nq).cell? ⟨pb,0,none⟩=some (.slice pa fs.length pc):=aP;clear G bI aP;generalize q2.drewN nq=q3 at N U;have Z:=aa hfull;clear hfull;go_wp2_with fail
     go_loopw [8,50] (λ_ s50 wr=>∃j:Nat,s50=.int .i64 j/\j<=fs.length/\Hid (RGW fs bs w pb pv (w.heap.size+1+1+1+1) (w.heap.size+1+1) (w.heap.size+1+1+1) left E j wr)) (λ_ s50 _=>match s50 with | .int _ j=>fs.length-j.toNat|_=>0)
     case atStart=>exact⟨0,rfl,aV _,N⟩
     case round =>
      clear N U
      rename World=>q5
      obtain⟨i,rfl,hi,hg⟩:=hrel
      by_cases I:i<fs.length
      ·have O:=hg.out.prg.own
       obtain⟨Q,k,x⟩:∃Q k,(.slice pa fs.length pc:Value)=.slice (some ⟨Q,0,none⟩) bs.length k:=by
        rw[<- a2.out];rcases O.1.2 with⟨_,h0⟩|⟨Q,k,F,x,_⟩
        ·have:=HL.out;omega
        ·exact⟨Q,k,x⟩
       have b2:pa=some ⟨Q,0,none⟩:=by injection x
       have d:q5.ownsRow 0 61 1 (.slice (some ⟨Q,0,none⟩) bs.length k) bs.length (bs.map pB):=by rw[<- x,<- a2.out];exact O.1
       obtain⟨f,hf⟩:∃f,fs[i]?=some f:=⟨_,aw I⟩;obtain⟨L,V,hA,K,vp,vb,xs,hn,_,_,_⟩:=nW hg.out.prg.funs hf;have e0:q5.cell? ⟨Q,i,none⟩=some (pB L):=by rw[d.cellAt i (by rw[HL.out];omega),aG,V];rfl
       obtain⟨u,X⟩:∃u,((fs.map (·.name)).zip E)[i]?=some u:=⟨_,aw (by rw[a4.out];exact I)⟩;have bE:u.1=f.name:=by
        rw[List.getElem?_zip_eq_some,aG,hf]at X;exact(aT X.1).symm
       have bC:=aJ X;have aC:decide ((i:Int)<(fs.length:Int))=true:=by simp;omega
       have aZ:fs.length-((i:Int)+1).toNat<fs.length-(i:Int).toNat:=ee I;have aK:=aa (fR ((i:Int)+1) (by unfold maxLen at aF;omega));have aU:i+1<=fs.length:=I;have bp:Below q5.heap.size q5 q5.drew:=(ai _ _).drew;have al:=aa (hg.out.below bp);have bh:=aa hn;have bM:=aa X;obtain⟨rb,bx⟩:∃rb:Bool,(rb=true<->Rch ((fs.map (·.name)).zip E) u.1 u.1):=by
        by_cases h:Rch ((fs.map (·.name)).zip E) u.1 u.1
        ·exact⟨true,by simp[h]⟩
        ·exact⟨false,by simp[h]⟩
       have bj:=aa bx;have bK:=aa (B0 _ aO.out q5.drew (w.heap.size+1+1+1+1) (w.heap.size+1+1) (w.heap.size+1+1+1) left al.kg.hk al.kg.usesz u bC);have Y:Hid (∀v:World,RGW fs bs w pb pv (w.heap.size+1+1+1+1) (w.heap.size+1+1) (w.heap.size+1+1+1) left E i v->Below q5.heap.size q5 v->v.cell? ⟨L,0,none⟩=some (.string ⟨u.1.toArray⟩)/\v.cell? ⟨L,4,none⟩=some (.int .i64 K)):=λv _ hb=>by
        have h:=(hb.block _ (ab bh.out)).trans bh.out;rw[bE];exact⟨(ae h 0).trans rfl,(ae h 4).trans rfl⟩
       have c5:=hg;subst b2;clear O x d hf V hn hA X bE bC hg bp bx;go_wp2_with fail;refine wp_region_any (by kernel_rfl) ?_;change wpAny _ _ _ _ _ _ _ (World.drew _);refine ni 54 11 5 _ [pB (w.heap.size+1+1+1+1),pB L,pB L,.pointer (some ⟨L,0,none⟩),.string ⟨u.1.toArray⟩,.bool rb,.bool (!rb),pB L,pB L,.pointer (some ⟨L,4,none⟩),.int .i64 K] (λz=>RGW fs bs w pb pv (w.heap.size+1+1+1+1) (w.heap.size+1+1) (w.heap.size+1+1+1) left E i z/\Below q5.heap.size q5 z) (by kernel_rfl) rfl (cd rfl) (fE (by kernel_rfl)).1 (fE (base:=54) (l:=11) (by kernel_rfl)).2.1 (fE (base:=54) (l:=11) (by kernel_rfl)).2.2 (by kernel_rfl) (by kernel_rfl) (by omega) ?_ ?_ ?_
       ·have hR:∀v:World,(v=q5.drew\/(RGW fs bs w pb pv (w.heap.size+1+1+1+1) (w.heap.size+1+1) (w.heap.size+1+1+1) left E i v/\Below q5.heap.size q5 v))->v.cell? ⟨L,0,none⟩=some (.string ⟨u.1.toArray⟩)/\v.cell? ⟨L,4,none⟩=some (.int .i64 K):=λv h=>by
         rcases h with rfl|h
         ·exact Y.out _ al.out (ai _ _).drew
         ·exact Y.out _ h.1 h.2
        have q0:∀v:World,_->v.cell? ⟨L,0,none⟩=some (.string ⟨u.1.toArray⟩):=λv h=>(hR v h).1;have q4:∀v:World,_->v.cell? ⟨L,4,none⟩=some (.int .i64 K):=λv h=>(hR v h).2;intro v X y o B bR bS a s c;rcases y with _|y
        ·cases B;exact gH rfl rfl (s 4 (by decide))
        rcases y with _|y
        ·cases B;exact gH rfl rfl (s 8 (by decide))
        rcases y with _|y
        ·cases B;exact nf rfl rfl (c ⟨1,.data⟩ (by simp) rfl)
        rcases y with _|y
        ·cases B;exact g8 rfl rfl (c ⟨2,.data⟩ (by simp) rfl) (by go_simp)
        rcases y with _|y
        ·cases B;exact jH rfl rfl (c ⟨3,.data⟩ (by simp) rfl) (by have zz:=q0 _ X;go_simp)
        rcases y with _|y
        ·exact absurd rfl bR
        rcases y with _|y
        ·cases B;exact LC rfl rfl (c ⟨5,.data⟩ (by simp) rfl)
        rcases y with _|y
        ·cases B;exact gH rfl rfl (s 8 (by decide))
        rcases y with _|y
        ·cases B;exact nf rfl rfl (c ⟨7,.data⟩ (by simp) rfl)
        rcases y with _|y
        ·cases B;exact g8 rfl rfl (c ⟨8,.data⟩ (by simp) rfl) (by go_simp)
        rcases y with _|y
        ·cases B;exact jH rfl rfl (c ⟨9,.data⟩ (by simp) rfl) (by have zz:=q4 _ X;go_simp)
        exact absurd bS (by omega)
       ·intro o B a c9 s c
        cases B;have e0:a.eval (.tmp 54)=pB (w.heap.size+1+1+1+1):=c ⟨0,.data⟩ (by simp) rfl;have e1:a.eval (.tmp 58)=.string ⟨u.1.toArray⟩:=c ⟨4,.data⟩ (by simp) rfl;refine lX (f:=184) (args:=#[pB (w.heap.size+1+1+1+1),.string ⟨u.1.toArray⟩]) (w':=q5.drew) ?_ ?_
        ·have e3:a.eval (.func 184)=.func (.func 184) #[] #[]:=rfl
         clear s c;generalize a.eval=ρ at e0 e1 e3;unfold execOp;go_simp
        ·refine bK.mono ?_
         rintro e z ⟨bq,b,rfl,hb⟩;have bO:b=rb:=Bool.eq_iff_iff.2 (hb.trans bj.symm);subst bO;exact⟨rfl,al.below bq,(ai _ _).drew.trans bq⟩
       ·intro o B z hz
        cases B;have HZ:=aa hz;clear hz;refine lX (f:=183) (args:=#[.bool (!rb),.int .i64 12,.int .i64 K]) (w':=z) ?_ ?_
        ·generalize hA:mV _ 54 _=A
         have bc:∀t v,A.tmps.getD t undef=v->A.eval (.tmp t)=v:=λt v h=>h;have e0:A.eval (.tmp 60)=.bool (!rb):=bc _ _ (by rw[<- hA];exact(jL _ 54 _ (cd rfl) 60).trans rfl);have e1:A.eval (.tmp 64)=.int .i64 K:=bc _ _ (by rw[<- hA];exact(jL _ 54 _ (cd rfl) 64).trans rfl);have e4:A.eval (.func 183)=.func (.func 183) #[] #[]:=rfl;clear hA bc;have e5:A.eval (.const (.int .i64 12))=.int .i64 12:=rfl;generalize A.eval=ρ at e0 e1 e4 e5;unfold execOp;go_simp
        ·refine(Fo z (!rb) 12 K).mono ?_
         rintro e z2 ⟨rfl,rfl⟩;cases rb with
         | true =>
          have a1:=aa (show eJ fs=none by
           unfold eJ;rw[ax HH.out,ar.out];simp only[aj];have:=aL.out;rw[a4.out]at this;rw[this,ax Z.out])
          simp only[mV];go_wp2_with fail;exact ra 12 K rfl rfl rfl HZ.out.1.rv a1.out
         | false =>
          have a3:=aa (show RGW fs bs w pb pv (w.heap.size+1+1+1+1) (w.heap.size+1+1) (w.heap.size+1+1+1) left E (i+1) z from⟨HZ.out.1.rv,HZ.out.1.kg,HZ.out.1.prg,λn v hn hv=>by
           by_cases e:n=i
           ·have h1:((fs.map (·.name)).zip E)[i]?=some v:=by rw[<- e];exact hv
            have h2:u=v:=aT (bM.symm.trans h1);rw[<- h2];intro J;exact absurd (bj.out.2 J) (by decide)
           ·exact HZ.out.1.no n v (Nat.lt_of_le_of_ne (Nat.le_of_lt_succ hn) e) hv⟩)
          simp only[mV];go_wp2_with fail
          try rw[aK.out]
          exact⟨⟨i+1,by simp,aU,a3⟩,aZ⟩
      ·exfalso
       have ca:i=fs.length:=by omega
       rcases(uJ _ aO.nd aO.known).2 with h|⟨_,v,hv,bY⟩
       ·rw[aL.out,a4.out]at h
        have:=Z.out;omega
       ·obtain⟨n,hn⟩:=fL.1 hv
        have bV:=(aE.1 hn).1;exact hg.out.no n v (by rw[a4.out]at bV;omega) hn bY
    ·have bQ:decide ((R.length:Int)<(fs.length:Int))=false:=by simp;omega
     go_quiet (fail)
     have G:Below q2.heap.size q2 (q2.drewN nq):=⟨rfl,rfl,rfl,ag _,λ_ _=>rfl⟩;have aB:=aa (ay.below G);have C:=aa ((G.block _ (ab bm.out)).trans bm.out);have D:=aa ((G.block _ (ab bn.out)).trans bn.out);have M:=aa (aY aN.out (Chg.of_below (S:=λ_=>False) G) λ_ _=>id);clear G bI aP;generalize q2.drewN nq=q3 at aB C D M;have d1:q3.cell? ⟨w.heap.size,0,none⟩=some (.slice sa R.length sc):=(ae C.out 0).trans rfl;have g1:=aD q3 w.heap.size 0 _ _ C.out;have d2:q3.cell? ⟨w.heap.size+1,0,none⟩=some x2:=(ae D.out 0).trans rfl;have g2:=aD q3 (w.heap.size+1) 0 _ _ D.out;have c6:=ab C.out;have I:=ab D.out;go_wp2_with fail;have bZ:((q3.setCell ⟨w.heap.size,0,none⟩ (.slice sa R.length sc)).setCell ⟨w.heap.size+1,0,none⟩ (.pointer none)).heap[w.heap.size]?=some (.cells #[.slice sa R.length sc] 202 (0,0)):=by
      rw[aM _ _ _ _ (by show w.heap.size≠w.heap.size+1;omega)];exact aA (j:=0) C.out _
     have c2:((q3.setCell ⟨w.heap.size,0,none⟩ (.slice sa R.length sc)).setCell ⟨w.heap.size+1,0,none⟩ (.pointer none)).heap[w.heap.size+1]?=some (.cells #[.pointer none] 52 (0,0)):=by
      refine aA (j:=0) (cs:=#[x2]) ?_ _;rw[aM _ _ _ _ (by show w.heap.size+1≠w.heap.size;omega)];exact D.out
     have br:Chg (λi=>i=w.heap.size\/i=w.heap.size+1) q3 ((q3.setCell ⟨w.heap.size,0,none⟩ (.slice sa R.length sc)).setCell ⟨w.heap.size+1,0,none⟩ (.pointer none)):=((Chg.refl (λi=>i=w.heap.size\/i=w.heap.size+1) q3).setCell (p:=⟨w.heap.size,0,none⟩) (λ_=>.inl rfl) _).setCell (p:=⟨w.heap.size+1,0,none⟩) (λ_=>.inr rfl) _;have a9:=(Chg.of_below (S:=λi=>w.heap.size<=i) aB.bel).then (br.mono λi _ e=>by rcases e with e|e<;>omega)
     have b4:=uE (aY M.out br λg hg e=>by
      obtain⟨F,fr,m⟩:=bG M.out hg;rcases e with rfl|rfl
      ·rw[C.out]at m;injection m with m;injection m with _ m _;exact absurd m (by decide)
      ·rw[D.out]at m;injection m with m;injection m with _ m _;exact absurd m (by decide)) HR.rv.bel.size
     refine DC rfl rfl rfl bZ c2 ⟨⟨a9.os,a9.tape,a9.output,a9.size,λi hi=>a9.block i hi (by omega)⟩,?_⟩;have bP:eJ fs=some R:=by
      unfold eJ;rw[ax HH.out,ar.out];simp only[aj];have:=aL.out;rw[a4.out]at this;rw[this,ap hfull]
     rw[bP];exact⟨_,rfl,b4⟩
 ·rw[ap m]at hz
  obtain⟨c1,l1,rfl⟩:=hz;have a1:=aa (show eJ fs=none by unfold eJ;rw[ap m]);clear hc m;go_wp2_with fail;exact ra c1 l1 rfl rfl rfl am.out a1.out
def tR (fs:List Fun) (w:World) (e:Ending) (w':World):Prop:=
 Below w.heap.size w w'/\match eJ fs with
 | some _=>e=.returned .nilIface
 | none=>∃(b:Nat) (c ln:Int),e=.returned (.iface 52 (pB b))/\w'.heap[b]?=some (.cells #[.int .i64 c,.int .i64 ln] 122 (0,0))
theorem vG (fs:List Fun) (bs:List Nat) (w:World) (pb:Nat) (pv:Value) (hP:PrgAt w w.heap.size pb pv bs fs) (hw:∀f∈fs,FunW f) (hE:Env w w.heap.size bs fs):
  Calls prog 73 #[pB pb] w (tR fs w):=by
 have j:=aa (rc fs bs w pb pv hP hw hE);clear hP hw hE
 go_enter func73,ntmps73
 go_wp2_with fail;refine j.mono ?_;rintro e z ⟨h,d⟩;have g:=aa h;clear h;cases ho:eJ fs with
 | none =>
  rw[ho]at d;obtain⟨b,c,m,rfl,i⟩:=d;have a:=aa (show tR fs w (.returned (.iface 52 (pB b))) z from⟨g.out,by rw[ho];exact⟨b,c,m,rfl,i⟩⟩);clear i ho;go_wp2_with fail;go_ret;exact a.out
 | some l =>
  rw[ho]at d;obtain⟨v,rfl,k⟩:=d;have a:=aa (show tR fs w (.returned .nilIface) z from⟨g.out,by rw[ho]⟩);clear k ho;go_wp2_with fail;go_ret;exact a.out
theorem Ar (fs:List Fun) (bs:List Nat) (w:World) (pb:Nat) (pv:Value) (hP:PrgAt w w.heap.size pb pv bs fs) (hw:∀f∈fs,FunW f) (hE:Env w w.heap.size bs fs) (l:List Nat) (hl:eJ fs=some l):
  Calls prog 227 #[pB pb] w (λe w'=>Below w.heap.size w w'/\∃v,e=.returned (.tuple #[v,.int .i64 0])/\w'.ownsRow w.heap.size 3 1 v l.length (Em l)):=by
 have i:=aa (rc fs bs w pb pv hP hw hE);have g:=aa hl;clear hP hw hE hl
 go_enter func227,ntmps227
 go_wp2_with fail;refine i.mono ?_;rintro e z ⟨a,c⟩;have d:=aa a;rw[g.out]at c;obtain⟨v,rfl,b⟩:=c;have h:=aa b;clear a b;go_wp2_with fail;go_ret2;exact⟨d.out,v,rfl,h.out⟩
end Go.Proofs.YtbeaaimcpkogcaaGreatDoor
