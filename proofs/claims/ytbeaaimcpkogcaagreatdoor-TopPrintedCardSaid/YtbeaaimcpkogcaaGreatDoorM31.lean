/- Lemmas on the way to the claim. -/
import Derived.Test.YtbeaaimcpkogcaaGreatDoorM25
set_option linter.unusedSimpArgs false
set_option linter.unusedVariables false
set_option maxHeartbeats 8000000
set_option maxRecDepth 100000
namespace Go.Proofs.YtbeaaimcpkogcaaGreatDoor
open Go.Proofs.Tryz Go.RowKit
variable {S:Nat->Prop} {q q' u v w w' w1:World} {P X XB cap eb gg lo:Nat} {av el r th:Value} {bs:List Nat} {l:List Sm} {o:Option PS} {s:PS} {p:Bool} {k ln:Int} {nm wd:Tx}
theorem Tryz.info195:(Tryz.prog.info? 195).map (λi=>(i.zero,i.size,i.bytes))=some (some (.pointer none),1,8):=by kernel_rfl
structure BkAt (w:World) (X lo:Nat) (av:Value) (bs:List Nat):Prop where
 box:One w X av 134
 own:w.ownsRow lo 195 1 av bs.length (bs.map pB)
def BkG (X lo:Nat) (w:World) (l:List Sm):Prop:=∃av bs,BkAt w X lo av bs/\cu w (λk=>lo<=k/\av.ownBlock≠some k) bs l/\bs.length=l.length
def BkB (X lo:Nat) (w:World):Prop:=∃av bs,BkAt w X lo av bs
theorem BkAt.chg (h:BkAt w X lo av bs) (hc:Chg S w w') (h1:¬S X) (h2:∀k,lo<=k->¬S k):BkAt w' X lo av bs:=
 ⟨h.box.chg hc h1,fV h.own (hc.same h2)⟩
theorem BkG.chg (h:BkG X lo w l) (hc:Chg S w w') (h1:¬S X) (h2:∀k,lo<=k->¬S k):BkG X lo w' l:=by
 obtain⟨a,b,h,d,c⟩:=h;exact⟨a,b,h.chg hc h1 h2,d.onA (hc.sameOn λk hk=>h2 k hk.1),c⟩
theorem BkB.chg (h:BkB X lo w) (hc:Chg S w w') (h1:¬S X) (h2:∀k,lo<=k->¬S k):BkB X lo w':=by
 obtain⟨a,b,h⟩:=h;exact⟨a,b,h.chg hc h1 h2⟩
theorem BkAt.app (hc:BkAt q X lo av bs) (hg:(q.alloc (.cells #[pB eb] 195)).grownBy w1 av.ownBlock)
 (hown:w1.ownsRow lo 195 1 (.slice (some ⟨gg,0,none⟩) (bs.length+1) cap) (bs.length+1) (bs.map pB++[pB eb])) (h1:X<lo):
  BkAt (w1.setCell ⟨X,0,none⟩ (.slice (some ⟨gg,0,none⟩) (bs.length+1) cap)) X lo (.slice (some ⟨gg,0,none⟩) (bs.length+1) cap) (bs++[eb]):=by
 have a:One w1 X av 134:=fY hc.own hg hc.box h1;refine⟨iw a,?_⟩;rw[ac,dT];exact bg hown (show X<lo from h1) _
theorem BkG.app {x:Sm} (hX:cu v (λk=>lo<=k/\av.ownBlock≠some k) bs l) (hbl:bs.length=l.length) (hav:v.ownsRow lo 195 1 av bs.length (bs.map pB)) (hch:Chg (·=P) v q) (hx:ci q (Ge v.heap.size) eb x) (hc:BkAt q X lo av bs)
 (hg:(q.alloc (.cells #[pB eb] 195)).grownBy w1 av.ownBlock) (hown:w1.ownsRow lo 195 1 (.slice (some ⟨gg,0,none⟩) (bs.length+1) cap) (bs.length+1) (bs.map pB++[pB eb])) (hat:av.ownBlock=some gg\/gg=q.heap.size+1) (h1:X<lo) (hlo:P<lo) (hlv:lo<=v.heap.size):
  BkG X lo (w1.setCell ⟨X,0,none⟩ (.slice (some ⟨gg,0,none⟩) (bs.length+1) cap)) (l++[x]):=by
 refine⟨_,bs++[eb],hc.app hg hown h1,?_,by simp[hbl]⟩;have m:aX (λk=>lo<=k/\k≠gg/\av.ownBlock≠some k/\k<q.heap.size) q (w1.setCell ⟨X,0,none⟩ (.slice (some ⟨gg,0,none⟩) (bs.length+1) cap)):=λk o ⟨k1,k2,k3,k4⟩ hk=>by
  rw[aM _ _ _ _ (show k≠X by omega),hg.block k (by simp;omega) (iq k3),aK _ _ _ k4];exact hk
 have b:cu q (λk=>lo<=k/\av.ownBlock≠some k) bs l:=cu.onA (hch.sameOn λk hk e=>by have:=hk.1;omega) hX;have c:cu q (λk=>lo<=k/\k≠gg/\av.ownBlock≠some k/\k<q.heap.size) bs l:=b.weak λk hk ⟨h,h'⟩=>⟨h,λe=>by
  subst e;rcases hat with e|e
  ·exact h' e
  ·omega,h',hk⟩
 have d:ci q (λk=>lo<=k/\k≠gg/\av.ownBlock≠some k/\k<q.heap.size) eb x:=hx.weak λk hk h=>by
  have j:v.heap.size<=k:=h;have a:av.ownBlock≠some k:=λe=>by obtain⟨g,n,i⟩:=bG hav e;have:=ab i;omega
  refine⟨by omega,λe=>?_,a,hk⟩;subst e;rcases hat with e|e
  ·exact a e
  ·omega
 have f:=cu.onA m (c.snoc d);exact f.weak λk _ ⟨k1,k2,_⟩=>⟨k1,λe=>k2 (by simp only[Value.ownBlock,aq]at e;exact e.symm)⟩
theorem PO.app (h:PO q P o) (hc:BkAt q X lo av bs) (hg:(q.alloc (.cells #[pB eb] 195)).grownBy w1 av.ownBlock) (hPX:P<X) (h1:X<lo):
  PO (w1.setCell ⟨X,0,none⟩ (.slice (some ⟨gg,0,none⟩) (bs.length+1) cap)) P o:=by
 have a:(q.alloc (.cells #[pB eb] 195)).ownsRow lo 195 1 av bs.length (bs.map pB):=hc.own.alloc _;have b:One w1 X av 134:=fY hc.own hg hc.box h1;have c:=h.on ((ai q.heap.size q).alloc (ag _) (.cells #[pB eb] 195));refine PO.setOther ?_ b (by decide) (by decide) hPX 0 _;cases o with
 | some s=>exact PG.grown c a (by decide) (by omega) hg
 | none=>exact PB.grown c a (by decide) (by decide) (by omega) hg
def Lz (R:Nat->World->Prop) (X lo:Nat) (av:Value) (bs:List Nat) (w':World):Prop:=
 ∃eb q w1 gg cap,R eb q/\BkAt q X lo av bs/\(q.alloc (.cells #[pB eb] 195)).grownBy w1 av.ownBlock /\
  w1.ownsRow lo 195 1 (.slice (some ⟨gg,0,none⟩) (bs.length+1) cap) (bs.length+1) (bs.map pB++[pB eb])/\(av.ownBlock=some gg\/gg=q.heap.size+1)/\w'=w1.setCell ⟨X,0,none⟩ (.slice (some ⟨gg,0,none⟩) (bs.length+1) cap)
def MJ (s1:PS) (n:Nat):Option (List Sm×PS):=(dY n [] s1).bind λr=>(bP c8 r.2).bind λs2=>some (r.1,s2)
def LA (P X lo:Nat) (u:World) (s0:PS) (wr:World):Prop:=
 Chg (λk=>k=P\/k=X\/lo<=k) u wr/\((∃s l,PG wr P s/\BkG X lo wr l/\l.length+s.ts.length<=s0.ts.length/\s.d=s0.d/\∀r,Out (λn=>dY n l s) r->Out (λn=>dY n [] s0) r)\/(PB wr P/\BkB X lo wr/\Out (λn=>dY n [] s0) none))
theorem zQ (h:isW c8 s=true):Out (λn=>dY n l s) (some (l,s)):=⟨1,by show dY (0+1) l s=_;rw[dY,ax h]⟩
theorem yA (h:isW c8 s=false) (n:Nat):dY (n+1) l s=(ek n s).bind λr=>dY n (l++[r.1]) r.2:=by
 rw[dY,ap (by rw[h];decide)]
theorem LA.round {s0:PS} (hc:Chg (λk=>k=P\/k=X\/lo<=k) u v) (hX:cu v (λk=>lo<=k/\av.ownBlock≠some k) bs l) (hbl:bs.length=l.length) (hav:v.ownsRow lo 195 1 av bs.length (bs.map pB))
 (hlen:l.length+s.ts.length<=s0.ts.length) (hd:s.d=s0.d) (hw:isW c8 s=false) (hout:∀r,Out (λn=>dY n l s) r->Out (λn=>dY n [] s0) r) (hPX:P<X) (h1:X<lo) (hlv:lo<=v.heap.size)
 (h:Lz (λeb q=>∃r,Rd ek (some s) P v r q/\∀x s',r=some (x,s')->ci q (Ge v.heap.size) eb x) X lo av bs w'):LA P X lo u s0 w'/\muP P w'<=s.ts.length:=by
 obtain⟨eb,q,A,gg,cap,⟨r,c,z⟩,a,t,b,w,rfl⟩:=h;have B:Chg (λk=>k=P\/k=X\/lo<=k) u (A.setCell ⟨X,0,none⟩ (.slice (some ⟨gg,0,none⟩) (bs.length+1) cap)):=
  hc.then (((((c.chg.mono (S':=λk=>k=P\/k=X\/lo<=k) λi _ e=>.inl e)).alloc _).grown t λk hk _=>.inr (.inr (cG a.own k hk))).setCell (λ_=>.inr (.inl rfl)) _)
 have m:=c.st.app (cap:=cap) (gg:=gg) a t hPX h1;cases r with
 | none =>
  have f:PB (A.setCell ⟨X,0,none⟩ (.slice (some ⟨gg,0,none⟩) (bs.length+1) cap)) P:=m;exact⟨⟨B,.inr ⟨f,⟨_,_,a.app t b h1⟩,hout none (Out.stepN (g:=λn r=>dY n (l++[r.1]) r.2) rfl (λn=>yA hw n) c.out)⟩⟩,by rw[f.mu];omega⟩
 | some r =>
  obtain⟨x,p⟩:=r;have j:PG (A.setCell ⟨X,0,none⟩ (.slice (some ⟨gg,0,none⟩) (bs.length+1) cap)) P p:=m;obtain⟨s',e,C,y⟩:=c.len x p rfl;cases e;refine⟨⟨B,.inl ⟨p,l++[x],j,BkG.app hX hbl hav c.chg (z x p rfl) a t b w h1 (by omega) hlv,by simp;omega,y.trans hd,λo ho=>hout o (Out.step (CG s) (Au (l++[x]) p) rfl (λn=>yA hw n) c.out o ho)⟩⟩,by rw[j.mu];omega⟩
theorem xW (N:Nat) (hNm:N<=1000000) (hSt:Lq N) (u:World) (P X B:Nat) (s0:PS) (h:PG u P s0) (hN:s0.ts.length<=N) (hB:One u B (pB P) 51) (hX:BkG X (X+1) u []) (hBX:B<X) (hPB:P<B):
  Calls prog 114 #[pB B,pB X] u (pC (λk=>k=P\/k=X\/X+1<=k) P (MJ s0) s0.ts.length s0.d (BkG X (X+1)) (BkB X (X+1)) u):=by
 have J:=aa (show LA P X (X+1) u s0 u from⟨Chg.refl _ _,.inl ⟨s0,[],h,hX,by simp,rfl,λr h=>h⟩⟩);have ae:X<u.heap.size:=by obtain⟨K,L,h1,_⟩:=hX;exact ab h1.box
 obtain⟨i0,hi,a8,a9,ac⟩:=cX Tryz.info195;clear h hX
 go_enter func114,ntmps114
 go_wp2_with fail
 go_loopw [] (λwr=>Hid (LA P X (X+1) u s0 wr)) (λwr=>muP P wr)
 case atStart=>exact J
 case round =>
  clear J;obtain⟨Y,v⟩:=hrel.out;clear hrel;have HC:=aa Y;have F:=aa (hB.chg Y (by omega));have am:=Y.size;have b0:=F.c;clear Y;rcases v with⟨s,l,C,c,hl,hd,f⟩|⟨Q,c,f⟩
  ·have o:=aa C
   have U:=aa c;have V:=aa f;have a2:=aa C.mu;clear C c f;go_wp2_with fail;refine(jC wr P (some s) o.out).mono ?_;rintro e z ⟨rfl,rfl⟩;go_wp2_with fail;have j:Below wr.heap.size wr (wr.alloc (.cells #[.string ⟨#[125]⟩] 9)):=az;refine(Mg _ P (some s) (PG.on o.out j) c8 wr.heap.size 1 (af _ _)).mono ?_;rintro e y ⟨rfl,hy⟩;have p:=aa (j.trans (hy.mono j.size));clear hy j;have G:=aa (F.below p.out);have H:=aa (o.on p.out);have b1:=G.c;obtain⟨qw,D⟩:∃qw,isO c8 (some s)=qw:=⟨_,rfl⟩;rw[D];have W:=aa (show isW c8 s=qw from D);clear D;cases qw with
   | true =>
    go_wp2_with fail;refine(kG y P s H.out c8 W.out).mono ?_;rintro e z ⟨rfl,T,hg⟩;have E:=aa T;have HG:=aa hg;clear T hg;go_wp2_with fail;go_end0;refine⟨rfl,(HC.on p.out).trans E.out λi _ q=>.inl q,.inl ⟨l,aS s,?_,?_,hd,BkG.chg (U.chg (Chg.of_below (S:=λ_=>False) p.out) id λ_ _=>id) E.out (by omega) (λk hk=>by omega),HG.out⟩⟩
    ·exact(V.out _ (zQ W.out)).fst (by show(bP c8 s).bind _=_;unfold bP;rw[ax W.out];rfl)
    ·unfold aS;split<;>simp<;>omega
   | false =>
    obtain⟨K,L,c,n,O⟩:=U.out;have m:=aa (c.chg (Chg.of_below (S:=λ_=>False) p.out) id λ_ _=>id);have a3:=aa (cu.onA (aX.below p.out) n);have a1:=aa (HC.on p.out);have x1:=m.box.c;have a0:=aa O;have ah:L.length<=1000000:=by omega
    clear O;have a6:X+1<=y.heap.size:=ab m.box;clear c n;have hE:Hid (Calls prog 115 #[pB P] y.drew λe q=>∃M,e=.returned (pB M)/\(q.cell? ⟨X,0,none⟩=some K/\q.cell? ⟨B,0,none⟩=some (pB P))/\Hid (∃r,Rd ek (some s) P y r q/\∀x s',r=some (x,s')->ci q (Ge y.heap.size) M x)/\Hid (BkAt q X (X+1) K L)/\X+1<=q.heap.size):=by
     refine(hSt y.drew P s (H.on (ai _ _).drew) (by omega)).mono ?_;rintro e q ⟨b,r,rfl,ag,j,Z,a7⟩;have t:Chg (·=P) y q:=(Chg.of_below (ai _ _).drew).then Z.chg;have w:=m.chg t (by omega) (λk hk=>by omega);exact⟨b,rfl,⟨w.box.c,(G.chg t (by omega)).c⟩,⟨r,⟨t,Z.out,Z.st,Z.len⟩,a7⟩,w,ab w.box⟩
    have an:=aH x1;have ao:=aH b1;go_wp2_with fail
    go_region_law (first
     | (go_simp;go_at_call 115;refine hE.out.mono ?_;rintro e q ⟨M,rfl,⟨g0,g1⟩,R,g,ad⟩;have ak:=aH g0;have al:=aH g1)
     | (refine step_append_lies _ (by rfl) _ _ _ (by rfl) (X+1) 195 i0 _ 1 8 underlying134 hi a8 a9 ac rfl (by omega) K L.length (L.map pB) (by rfl) (g.out.own.alloc _) ⟨q.heap.size,0,none⟩ 1 1 [pB M] (by rfl) (by rfl) (eu q _ _) (by simp[Value.oneCell']) (by omega) (by unfold maxLen;omega) (by omega) (by simp;omega) (q.heap.size+1) (by simp) ?_;intro gg a4 w1 A a a5 aj;have k0:=me g.out.own a g0 (by show X<X+1;omega);have k1:=me g.out.own a g1 (by show B<X+1;omega);have kf:w1.frozen? ⟨X,0,none⟩=false:=dm (show One w1 X K 134 from fY g.out.own a g.out.box (by omega))))
    all_goals
     have I:=aa (LA.round a1.out a3.out a0.out m.own hl hd W.out V.out (by omega) (by omega) a6 ⟨M,q,w1,gg,a4,R.out,g.out,a,A,a5,rfl⟩);go_simp;go_wp2_with fail
     go_roundw
     case rel=>exact I.out.1
     case measure=>rw[a2.out];exact oU I.out.2 (by omega)
  ·have o:=aa Q
   have U:=aa c;have V:=aa f;clear Q c f;go_wp2_with fail;refine(jC wr P none o.out).mono ?_;rintro e z ⟨rfl,rfl⟩;go_wp2_with fail;refine(iJ wr P o.out c8).mono ?_;rintro e z ⟨rfl,T⟩;have E:=aa T;clear T;go_wp2_with fail;go_end0;exact⟨rfl,HC.on E.out,.inr ⟨V.none1,U.chg (Chg.of_below (S:=λ_=>False) E.out) id λ_ _=>id,o.on E.out⟩⟩
theorem sh (P:Nat) (u:World) (B X:Nat) (h:PB u P) (hB:One u B (pB P) 51):
  Calls prog 114 #[pB B,pB X] u λe u'=>e=.returned (.tuple #[])/\Below u.heap.size u u'/\PB u' P:=by
 have c:=hB.c
 go_enter func114,ntmps114
 go_wp2_with fail;refine bC 1 ?_;rw[aO];go_wp2_with fail;refine(jC u P none h).mono ?_;rintro e z ⟨rfl,rfl⟩;go_wp2_with fail;refine(iJ u P h c8).mono ?_;rintro e z ⟨rfl,b⟩;have a:=aa b;clear b;go_wp2_with fail;go_end0;exact⟨rfl,a.out,h.on a.out⟩
theorem BkAt.setOther (h:BkAt w X lo av bs) {p:Addr} (hp:p.block≠X) (hl:p.block<lo) (v:Value):BkAt (w.setCell p v) X lo av bs:=
 ⟨h.box.setOther hp v,fV h.own (bA.setCell w hl v)⟩
theorem BkG.setOther (h:BkG X lo w l) {p:Addr} (hp:p.block≠X) (hl:p.block<lo) (v:Value):BkG X lo (w.setCell p v) l:=by
 obtain⟨a,b,h,c,e⟩:=h;exact⟨a,b,h.setOther hp hl v,c.onA λk o hk ho=>bA.setCell w hl v k o hk.1 ho,e⟩
theorem BkB.setOther (h:BkB X lo w) {p:Addr} (hp:p.block≠X) (hl:p.block<lo) (v:Value):BkB X lo (w.setCell p v):=by
 obtain⟨a,b,h⟩:=h;exact⟨a,b,h.setOther hp hl v⟩
theorem BkG.sl {m:Nat} {T:TypeId} (h:BkG X lo w l) (ho:One w X av T) (hm:m<=lo):jU w (Ge m) av l:=by
 obtain⟨a,c,b,d,e⟩:=h;have:av=a:=by have:=ho.c.symm.trans b.box.c;exact aT this
 subst this;exact⟨c,⟨kD b.own (aV _),λg hg=>by have:=cG b.own g hg;show m<=g;omega⟩,d.weak λk _ hk=>by have:=hk.1;show m<=k;omega⟩
theorem sg (N:Nat) (hNm:N<=1000000) (hSt:Lq N):Ei (N+1):=by
 intro w P o h hN;generalize m:w.alloc (.cells #[pB P] 51)=w1;generalize C:w1.alloc (.cells #[.slice none 0 0] 134)=w2;have s1:w1.heap.size=w.heap.size+1:=by rw[<- m];exact ah _ _
 have R:Below w1.heap.size w1 w2:=by rw[<- C];exact az
 have b0:Below w.heap.size w w1:=by rw[<- m];exact az
 have K:=aa (show One w2 w.heap.size (pB P) 51 from(show One w1 w.heap.size (pB P) 51 by rw[<- m];exact af _ _).below R);have HX:=aa (show One w2 (w.heap.size+1) (.slice none 0 0) 134 by rw[<- C,<- s1];exact af _ _);have Q:=aa (show Below w.heap.size w w2 from b0.trans (R.mono (by omega)));have a0:=h.lt;have HP:=aa (h.on Q.out);clear b0 R;have c0:=K.c;have M:=aa (show BkG (w.heap.size+1) (w.heap.size+1+1) w2 [] from⟨.slice none 0 0,[],⟨HX.out,bq _ _ _ _⟩,by rw[cu];trivial,rfl⟩);have L:Hid (Calls prog 111 #[pB P,.string ⟨fu.toArray⟩,.func (.func 114) #[] #[pB w.heap.size,pB (w.heap.size+1)]] w2 λe F=>e=.returned (.tuple #[])/\Chg (λk=>k=P\/k=w.heap.size+1\/w.heap.size+1+1<=k) w2 F /\
   ∃q,Out (λn=>o.bind (dc n)) q/\PO F P (q.map (·.2))/\BkB (w.heap.size+1) (w.heap.size+1+1) F/\∀l s',q=some (l,s')->BkG (w.heap.size+1) (w.heap.size+1+1) F l/\∃s,o=some s/\s'.ts.length+1<=s.ts.length/\s'.d=s.d):=by
  cases o with
  | none =>
   refine(GG (λk=>k=P\/k=w.heap.size+1\/w.heap.size+1+1<=k) P w2 fu HP.out (.inl rfl) 114 _ (BkB (w.heap.size+1) (w.heap.size+1+1))
    (λu hu c=>(sh P u w.heap.size (w.heap.size+1) hu (K.chg c (by omega))).mono λe u' ⟨x,j,y⟩=>⟨x,.of_below j,?_,y⟩) (λu=>by kernel_rfl) (λu v z=>z.setOther (by show P≠_;omega) (by show P<_;omega) v)).mono ?_
   ·obtain⟨D,E,b,_⟩:=M.out
    exact⟨D,E,(b.chg c (by omega) (λk b=>by omega)).chg (Chg.of_below (S:=λ_=>False) j) id λ_ _=>id⟩
   ·rintro e F ⟨x,j,y,h4⟩
    exact⟨x,j,none,λn=>rfl,h4,y,λl s' e=>by cases e⟩
  | some s =>
   have a3:1<=s.ts.length:=bc.2 (PG.ne h);refine(vd (A:=List Sm) (λk=>k=P\/k=w.heap.size+1\/w.heap.size+1+1<=k) P w2 fu s HP.out (.inl rfl) 114 #[pB w.heap.size,pB (w.heap.size+1)] MJ (BkG (w.heap.size+1) (w.heap.size+1+1)) (BkB (w.heap.size+1) (w.heap.size+1+1))
    (λu q hq c hl=>xW N hNm hSt u P (w.heap.size+1) w.heap.size q hq (by have:=hN s rfl;omega) (K.chg c (by omega)) (M.chg c (by omega) (λk b=>by omega)) (by omega) (by omega))
    (λu hu c=>(sh P u w.heap.size (w.heap.size+1) hu (K.chg c (by omega))).mono λe u' ⟨x,j,y⟩=>⟨x,.of_below j,?_,y⟩) (λu=>by kernel_rfl) (λu a v z=>z.setOther (by show P≠_;omega) (by show P<_;omega) v) (λu v z=>z.setOther (by show P≠_;omega) (by show P<_;omega) v)).mono ?_
   ·obtain⟨D,E,b,_⟩:=M.out
    exact⟨D,E,(b.chg c (by omega) (λk b=>by omega)).chg (Chg.of_below (S:=λ_=>False) j) id λ_ _=>id⟩
   ·rintro e F ⟨x,j,y⟩
    refine⟨x,j,?_⟩;rcases y with⟨l,s2,r,hl,hd,I,W⟩|⟨r,z,V⟩
    ·exact⟨some (l,s2),r.up rfl λn=>by rw[aj,dc];rfl,W,(by obtain⟨D,E,b,_⟩:=I;exact⟨D,E,b⟩),λl' s' e=>by cases e;exact⟨I,s,rfl,by omega,hd⟩⟩
    ·exact⟨none,r.up rfl λn=>by rw[aj,dc];rfl,V,z,λl' s' e=>by cases e⟩
 clear hN hSt
 go_enter func64,ntmps64
 go_wp2_with fail;refine L.mono ?_;rintro e v ⟨rfl,c,q,r,J,⟨D,E,b⟩,I⟩;obtain⟨d,g,f,rfl⟩:=bD b.own;have HC:=aa ((Chg.of_below (S:=(·=P)) Q.out).trans c λi hi q=>by omega);have a2:=aa (ay Q.size c.size);have HO:=aa r;have Z:=aa I;have a1:=aa b;have H:=b.box;have O:=aa (J.setOther H (by decide) (by decide) (by omega) 0 (.slice d g f));have t:=aa (show One (v.setCell ⟨w.heap.size+1,0,none⟩ (.slice d g f)) (w.heap.size+1) (.slice d g f) 134 from iw H);have x0:=H.c;have f0:=dm H;have x1:=t.c;clear c m C s1 c0 r J b I H;go_wp2_with fail;refine aN (v:=(.slice d g f)) (by simp[results,Tryz.results64,go_sem,x1]) rfl ⟨d,g,f,q,rfl,⟨HC.setCell (p:=⟨w.heap.size+1,0,none⟩) (λhh=>absurd hh (by show¬(w.heap.size+1<w.heap.size);omega)) _,HO.out,O.out,λl s' e=>(Z.out l s' e).2⟩,λl s' e=>?_⟩;obtain⟨G,T,B,Y,U⟩:=(Z.out l s' e).1;refine BkG.sl (X:=w.heap.size+1) (lo:=w.heap.size+1+1) ⟨(.slice d g f),T,⟨t.out,?_⟩,?_,U⟩ t.out (by omega)
 ·have:Value.slice d g f=G:=by have:=x0.symm.trans B.box.c;exact aT this
  subst this;exact fV B.own (bA.setCell v (by show w.heap.size+1<_;omega) (.slice d g f))
 ·have:Value.slice d g f=G:=by have:=x0.symm.trans B.box.c;exact aT this
  subst this;exact Y.onA λk o b r=>bA.setCell v (p:=⟨w.heap.size+1,0,none⟩) (lo:=w.heap.size+1+1) (by show w.heap.size+1<_;omega) (.slice d g f) k o b.1 r
def StN (w:World) (X:Nat) (k:Int) (nm:Tx) (p:Bool) (l r th el:Value) (ln:Int):Prop:=w.heap[X]?=some (stC k nm p l r th el ln)
theorem StN.chg {l:Value} (h:StN w X k nm p l r th el ln) (hc:Chg S w w') (hn:¬S X):StN w' X k nm p l r th el ln:=by
 unfold StN at *;rw[hc.block _ (ab h) hn];exact h
theorem StN.below {l:Value} (h:StN w X k nm p l r th el ln) (hb:Below w.heap.size w w'):StN w' X k nm p l r th el ln:=by
 unfold StN at *;rw[hb.block _ (ab h)];exact h
theorem StN.free {l:Value} (h:StN w X k nm p l r th el ln) (j:Nat):w.frozen? ⟨X,j,none⟩=false:=aD w X j _ _ h
def yi (P X:Nat) (kk:Int) (nm:Tx) (p:Bool) (l:Value) (ln:Int) (s:PS) (u:World) (e:Ending) (u':World):Prop:=
 e=.returned (pB X)/\∃q rb,Out (λn=>dy n s) q/\Chg (λk=>k=P\/k=X) u u'/\PO u' P (q.map (·.2))/\StN u' X kk nm p l (pB rb) bX bX ln/\∀x s',q=some (x,s')->bK u' (Ge u.heap.size) rb x/\s'.ts.length+1<=s.ts.length/\s'.d=s.d
theorem lH {s':PS} (h:bP wd s=some s'):s'.ts.length<=s.ts.length/\s'.d=s.d:=by
 unfold bP at h;split at h
 ·cases h
  exact⟨by unfold aS;split<;>simp,rfl⟩
 ·cases h
theorem iH (s:PS):(aS s).ts.length<=s.ts.length:=by unfold aS;split<;>simp
theorem jm (N:Nat) (hE:fH N) (u:World) (P B XB X:Nat) (kk k0:Int) (nm:Tx) (p:Bool) (l r0:Value) (ln:Int) (s:PS) (h:PG u P s) (hN:s.ts.length+1<=N) (hB:One u B (pB P) 51) (hXB:One u XB (pB X) 195) (hX:StN u X k0 nm p l r0 bX bX ln) (hPB:P<B) (hPX:P<X) (hBX:¬B=X) (hXXB:X<XB):
  Calls prog 168 #[.int .i64 kk,pB XB,pB B] u (yi P X kk nm p l ln s u):=by
 have b0:=hB.c;have x0:=hXB.c;have f0:=hX.free 0;have n0:u.cell? ⟨X,0,none⟩=some (.int .i64 k0):=(ae hX 0).trans rfl;have y:StN (u.setCell ⟨X,0,none⟩ (.int .i64 kk)) X kk nm p l r0 bX bX ln:=aA (j:=0) hX _;have m:=hB.setOther (p:=⟨X,0,none⟩) (by show X≠B;omega) (.int .i64 kk);have c:=hXB.setOther (p:=⟨X,0,none⟩) (by show X≠XB;omega) (.int .i64 kk);have F:=aa (h.setOther hX (by decide) hPX 0 (.int .i64 kk));have E:=aa (Chg.setCell (S:=λk=>k=P\/k=X) (p:=⟨X,0,none⟩) (Chg.refl _ u) (λ_=>.inr rfl) (.int .i64 kk));have I:(u.setCell ⟨X,0,none⟩ (.int .i64 kk)).heap.size=u.heap.size:=by simp[World.setCell]
 generalize a3:u.setCell ⟨X,0,none⟩ (.int .i64 kk)=u1 at y m c F E I;have w:=aa y;have D:=aa m;have t:=aa c;have b1:=m.c;have M:=c.c;have HC:Hid (Calls prog 169 #[pB P,.int .i64 1] u1.drew λe q=>∃b,e=.returned (pB b)/\(q.cell? ⟨B,0,none⟩=some (pB P)/\q.cell? ⟨XB,0,none⟩=some (pB X))/\(q.cell? ⟨X,4,none⟩=some r0/\q.frozen? ⟨X,4,none⟩=false) /\
   Hid (∃d,Rd (exF 1) (some s) P u1 d q/\∀x v,d=some (x,v)->bK q (Ge u1.heap.size) b x)):=by
  refine(Dt N hE u1.drew P (some s) 1 (F.on (ai _ _).drew) (λv e=>by cases e;exact hN)).mono ?_;rintro e q ⟨b,d,rfl,a1,a2,C,K⟩;have o:Chg (·=P) u1 q:=(Chg.of_below (ai _ _).drew).then C.chg;have H:=w.chg o (by omega);exact⟨b,rfl,⟨(D.chg o (by omega)).c,(t.chg o (by omega)).c⟩,⟨(ae H 4).trans rfl,H.free 4⟩,d,⟨o,C.out,C.st,C.len⟩,K⟩
 clear y m c
 go_enter func168,ntmps168
 go_wp2_with fail
 go_region_held3 (λw'=>w'.cell? ⟨B,0,none⟩=some (pB P)/\w'.cell? ⟨XB,0,none⟩=some (pB X))
  (first
   | (exact⟨b1,M⟩)
   | (exact⟨Y,Z⟩)
   | (exact⟨gP (p:=⟨X,4,none⟩) Y (iq hBX),gP (p:=⟨X,4,none⟩) Z (by show X≠XB;omega)⟩)
   | go_keep)
  (first
   | (go_at_call 169;refine HC.mono ?_;rintro e q ⟨b,rfl,⟨Y,Z⟩,⟨g2,g3⟩,C⟩))
 all_goals
  obtain⟨d,a,K⟩:=C.out;have A:=w.chg a.chg (by omega);have V:=aa (show StN (q.setCell ⟨X,4,none⟩ (pB b)) X kk nm p l (pB b) bX bX ln from aA (j:=4) A _);have G:=aa ((t.chg a.chg (by omega)).setOther (p:=⟨X,4,none⟩) (by show X≠XB;omega) (pB b));have O:=aa ((D.chg a.chg (by omega)).setOther (p:=⟨X,4,none⟩) (by show X≠B;omega) (pB b));have U:=aa (a.st.setOther A (by decide) (by decide) hPX 4 (pB b));have Q:=aa (Chg.setCell (S:=λk=>k=P\/k=X) (p:=⟨X,4,none⟩) (E.then (a.chg.mono λi _ e=>.inl e)) (λ_=>.inr rfl) (pB b));have HO:=aa a.out;have T:=aa a.len;have R:=aa (show∀x v,d=some (x,v)->bK (q.setCell ⟨X,4,none⟩ (pB b)) (Ge u.heap.size) b x fromλx v e=>by
   have:=(K x v e).on (bA.setCell q (p:=⟨X,4,none⟩) (show X<u1.heap.size from ab w.out) (pB b));rw[I]at this;exact this)
  clear C a K Y Z g2 g3 b0 x0 b1 M A;have b2:=O.c;go_wp2_with fail;refine(uL _ P _ U.out bU).mono ?_;rintro e z ⟨rfl,hz,hg⟩;have W:=aa hz;have HG:=aa hg;have x2:=(G.chg hz (by omega)).c;clear hz hg b2;go_wp2_with fail;go_ret;refine⟨rfl,(d.bind λr=>(bP bU r.2).bind λs2=>some (r.1,s2)),b,?_,Q.trans W.out (λi _ e=>.inl e),?_,V.chg W.out (by omega),?_⟩
  ·have:=HO.out
   exact Out.bindO (f:=λn=>cZ n 1 s) (g:=λ_ r=>(bP bU r.2).bind λs2=>some (r.1,s2)) (lJ 1 s) (λr n q h=>h) this (Out.const _)
  ·have e:(d.bind λr=>(bP bU r.2).bind λs2=>some (r.1,s2)).map (·.2)=(d.map (·.2)).bind (bP bU):=by
    cases d with
    | none=>rfl
    | some r=>show((bP bU r.2).bind λs2=>some (r.1,s2)).map (·.2)=bP bU r.2;cases bP bU r.2<;>rfl
   rw[e];exact HG.out
  ·intro x v e
   cases d with
   | none=>cases e
   | some r =>
    obtain⟨M,L⟩:=r;have J:((bP bU L).bind λs2=>some (M,s2))=some (x,v):=e;cases hm:bP bU L with
    | none=>rw[hm]at J;cases J
    | some s2 =>
     rw[hm]at J;cases J;obtain⟨s0,e0,hl,hd⟩:=T.out _ L rfl;cases e0;have a0:=lH hm;exact⟨(R.out _ L rfl).on (W.same λk hk e=>by have:=h.lt;omega),by omega,a0.2.trans hd⟩
theorem Out.map {α β:Type} {f:Nat->Option α} {q:Option α} (h:Out f q) (g:α->β):Out (λn=>(f n).bind λr=>some (g r)) (q.map g):=by
 cases q with
 | none=>exactλn=>by show(f n).bind _=none;rw[show f n=none from h n];rfl
 | some r=>obtain⟨n,hn⟩:=h;exact⟨n,by show(f n).bind _=_;rw[hn];rfl⟩
def my (r:Ex) (n:Nat) (a:List Sm×PS):Option (Sm×PS):=
 if isW iu a.2=true then
  if isW wIf (aS a.2)=true then(dz n (aS (aS a.2))).bind λb=>some (.iff r a.1 [b.1],b.2)
  else(dc n (aS a.2)).bind λb=>some (.iff r a.1 b.1,b.2)
 else some (.iff r a.1 [],a.2)
theorem rR (r:Ex) (a:List Sm×PS):ld λn=>my r n a:=λn q h =>
 eF h (λh=>eF h (λh=>bJ h (λ_ e=>(kH n).2.2.1 _ _ e) λ_ _ e=>e) λh=>bJ h (λ_ e=>(kH n).1 _ _ e) λ_ _ e=>e) id
theorem DM (s:PS) (n:Nat):dz (n+1) s=(cZ n 1 s).bind λr=>(dc n r.2).bind (my r.1 n):=by rw[dz];rfl
theorem IU (r:Ex×PS):ld λn=>(dc n r.2).bind (my r.1 n):=λn q h=>bJ h (λ_ e=>(kH n).1 _ _ e) λx q h=>rR r.1 x n q h
theorem oR {q:Option (Ex×PS)} {qa:Option (List Sm×PS)} {o:Option (Sm×PS)} (h1:Out (λn=>cZ n 1 s) q) (h2:Out (λn=>(q.map (·.2)).bind (dc n)) qa) (h3:Out (λn=>q.bind λr=>qa.bind (my r.1 n)) o):Out (λn=>dz n s) o:=by
 refine Out.up (f:=λn=>(cZ n 1 s).bind λr=>(dc n r.2).bind (my r.1 n)) ?_ rfl (DM s);refine Out.bindO (f:=λn=>cZ n 1 s) (g:=λn r=>(dc n r.2).bind (my r.1 n)) (lJ 1 s) IU h1 ?_;cases q with
 | none=>exact h3
 | some r=>exact Out.bindO (f:=λn=>dc n r.2) (g:=my r.1) (Ax r.2) (rR r.1) h2 h3
theorem zl (h:isO wd o=true):∃s,o=some s/\isW wd s=true:=by
 cases o with
 | none=>cases h
 | some s=>exact⟨s,rfl,h⟩
theorem Out.of_none {α:Type} {q:Option α} (h:Out (λ_=>none) q):q=none:=by
 cases q with
 | none=>rfl
 | some r=>obtain⟨n,hn⟩:=h;cases hn
theorem ny (h:isW wd s=true):iO wd (some s)=some (aS s):=by unfold iO cF;rw[kV,ax h]
theorem pG (h:isO wd o=false):iO wd o=o:=by
 cases o with
 | none=>rfl
 | some s=>unfold iO cF;rw[kV,ap (by rw[show isW wd s=false from h];decide)]
theorem xU (N M:Nat) (hM:N+2<=M) (hE:fH M) (hBl:Ei N) (hBr:Ly N):Ly (N+1):=by
 intro w P s Q h hN;have X:=h.lt;have bz:1<=s.ts.length:=bc.2 h.ne;have an:StN (w.alloc (stC 4 [] false cM cM bX bX Q)) w.heap.size 4 [] false cM cM bX bX Q:=af _ _;have Y:Below w.heap.size w (w.alloc (stC 4 [] false cM cM bX bX Q)):=az;have b5:(w.alloc (stC 4 [] false cM cM bX bX Q)).heap.size=w.heap.size+1:=ah _ _
 go_enter func170,ntmps170
 go_wp2_with fail;generalize bD:w.alloc (stC 4 [] false cM cM bX bX Q)=w1 at an Y b5;have bj:=aa an;have b8:=aa Y;have bd:=aa (h.on Y);clear an Y;refine(Dt M hE w1 P (some s) 1 bd.out (λc e=>by cases e;omega)).mono ?_;rintro e u ⟨F,q,rfl,bv,bw,hr,hx⟩;have b9:=aa ((Chg.of_below (S:=(·=P)) b8.out).then hr.chg);have U:=aa (bj.chg hr.chg (by omega));have HR:=aa hr;have HT:=aa hx;have f4:=U.free 4;have n4:u.cell? ⟨w.heap.size,4,none⟩=some cM:=(ae U.out 4).trans rfl;have aN:=aa (hr.st.setOther U.out (by decide) (by decide) X 4 (pB F));have aW:=aa (show StN (u.setCell ⟨w.heap.size,4,none⟩ (pB F)) w.heap.size 4 [] false cM (pB F) bX bX Q from aA (j:=4) U.out _);have aI:=aa (b9.setCell (p:=⟨w.heap.size,4,none⟩) (λe=>absurd e (by show¬(w.heap.size<w.heap.size);omega)) (pB F));have aR:=aa (show∀x c,q=some (x,c)->bK (u.setCell ⟨w.heap.size,4,none⟩ (pB F)) (Ge (w.heap.size+1)) F x fromλx c e=>by
  have:=(hx x c e);rw[b5]at this;exact this.on (bA.setCell u (p:=⟨w.heap.size,4,none⟩) (by show w.heap.size<_;omega) _))
 have b4:(u.setCell ⟨w.heap.size,4,none⟩ (pB F)).heap.size=u.heap.size:=by simp[World.setCell]
 have bC:w.heap.size+1<=u.heap.size:=by have:=hr.chg.size;omega
 clear hr hx;go_wp2_with fail;generalize bl:u.setCell ⟨w.heap.size,4,none⟩ (pB F)=u3 at aN aW aI aR b4;clear bl n4 f4;refine(hBl u3 P (q.map (·.2)) aN.out (λc e=>by
  cases hq:q with
  | none=>rw[hq]at e;cases e
  | some r=>rw[hq]at e;cases e;obtain⟨s0,e0,hl,_⟩:=HR.len r.1 r.2 hq;cases e0;show r.2.ts.length<=N;omega)).mono ?_
 rintro e y ⟨i,A,m,G,rfl,H,b1⟩;have D:=aa H;have ba:=aa (aI.then H.chg);have V:=aa (aW.chg H.chg (by omega));have bf:=aa (show∀x c,q=some (x,c)->bK y (Ge (w.heap.size+1)) F x fromλx c e=>(aR.out x c e).on (H.chg.same λk hk e=>by omega));have f5:=V.free 5;have n5:y.cell? ⟨w.heap.size,5,none⟩=some bX:=(ae V.out 5).trans rfl;have aO:=aa (H.st.setOther V.out (by decide) (by decide) X 5 (.slice i A m));have aY:=aa (show StN (y.setCell ⟨w.heap.size,5,none⟩ (.slice i A m)) w.heap.size 4 [] false cM (pB F) (.slice i A m) bX Q from aA (j:=5) V.out _);have aJ:=aa (ba.setCell (p:=⟨w.heap.size,5,none⟩) (λe=>absurd e (by show¬(w.heap.size<w.heap.size);omega)) (.slice i A m));have aT:=aa (show∀x c,q=some (x,c)->bK (y.setCell ⟨w.heap.size,5,none⟩ (.slice i A m)) (Ge (w.heap.size+1)) F x fromλx c e=>(bf.out x c e).on (bA.setCell y (p:=⟨w.heap.size,5,none⟩) (by show w.heap.size<_;omega) _));have aG:=aa (show∀l c,G=some (l,c)->jU (y.setCell ⟨w.heap.size,5,none⟩ (.slice i A m)) (Ge (w.heap.size+1)) (.slice i A m) l fromλl c e =>
  ((b1 l c e).weak λk _ hk=>ay (show w.heap.size+1<=u3.heap.size by omega) hk).on λk o hk B=>bA.setCell y (p:=⟨w.heap.size,5,none⟩) (lo:=w.heap.size+1) (by show w.heap.size<_;omega) (.slice i A m) k o hk B)
 clear H b1;go_wp2_with fail;generalize bm:y.setCell ⟨w.heap.size,5,none⟩ (.slice i A m)=y5 at aO aY aJ aT aG;clear bm n5 f5;refine(p9 y5 P (G.map (·.2)) aO.out iu).mono ?_;rintro e z ⟨rfl,I,K⟩;have aK:=aa (aJ.then I);have ak:=aa (aY.chg I (by omega));have ad:=aa (show∀x c,q=some (x,c)->bK z (Ge (w.heap.size+1)) F x fromλx c e=>(aT.out x c e).on (I.same λk hk e=>by omega));have a6:=aa (show∀l c,G=some (l,c)->jU z (Ge (w.heap.size+1)) (.slice i A m) l fromλl c e=>(aG.out l c e).on (I.sameOn λk hk e=>by have:w.heap.size+1<=k:=hk;omega));have a9:=aa K;have bn:w.heap.size<z.heap.size:=ab ak.out;clear I K;obtain⟨ie,aw⟩:∃ie,isO iu (G.map (·.2))=ie:=⟨_,rfl⟩;have R:=aa aw;rw[aw];clear aw;cases ie with
 | false =>
  go_wp2_with fail;go_ret;have am:PO z P (G.map (·.2)):=by have:=a9.out;rw[pG R.out]at this;exact this
  refine⟨w.heap.size,q.bind λr=>G.bind λa=>some (.iff r.1 a.1 [],a.2),rfl,ag _,bn,⟨aK.out,oR HR.out.out D.out.out ?_,?_,?_⟩,?_⟩
  ·have e:(λn=>q.bind λr=>G.bind (my r.1 n))=λn=>q.bind λr=>G.bind λa=>some (Sm.iff r.1 a.1 [],a.2):=by
    funext n
    cases q with
    | none=>rfl
    | some r=>cases G with
     | none=>rfl
     | some a=>show my r.1 n a=_;unfold my;rw[ap (by rw[show isW iu a.2=false from R.out];decide)];rfl
   rw[e];exact Out.const _
  ·cases q with
   | none=>have:=Out.of_none D.out.out;subst this;exact am
   | some r=>cases G with
    | none=>exact am
    | some a=>exact am
  ·intro x c e
   cases q with
   | none=>cases e
   | some r=>cases G with
    | none=>cases e
    | some a =>
     cases e;obtain⟨s0,e0,Z,ar⟩:=HR.len r.1 r.2 rfl;obtain⟨s1,e1,a0,au⟩:=D.len a.1 a.2 rfl;cases e0;cases e1;exact⟨s,rfl,by have h0:r.2.ts.length+1<=_:=Z;have h1:a.2.ts.length+1<=r.2.ts.length:=a0;omega,au.trans ar⟩
  ·intro x c e
   cases q with
   | none=>cases e
   | some r=>cases G with
    | none=>cases e
    | some a =>
     cases e;rw[ci];obtain⟨bs,B,hs⟩:=a6.out a.1 a.2 rfl;refine⟨ag _,Q,F,(.slice i A m),bX,bs,[],ak.out,(ad.out r.1 r.2 rfl).lower (by omega),B.weak λk _ hk=>ay (ft _) hk,hs.weak λk _ hk=>ay (ft _) hk,⟨bq _ _ _ _,λg hg=>by cases hg⟩,by rw[cu];trivial⟩
 | true =>
  obtain⟨a2,b0,aF⟩:=zl R.out;obtain⟨⟨O,d⟩,rfl⟩:∃a,G=some a:=by cases G with|none=>cases b0|some a=>exact⟨a,rfl⟩
  cases b0;obtain⟨⟨ex,s1⟩,rfl⟩:∃r,q=some r:=by
   cases q with
   | none=>have:=Out.of_none D.out.out;cases this
   | some r=>exact⟨r,rfl⟩
  have aV:=aa (show isW iu d=true from aF);have aQ:=aa (show PG z P (aS d) from by have:=a9.out;rw[show iO iu (Option.map (·.2) (some (O,d)))=some (aS d) from ny aF]at this;exact this);obtain⟨nn,hh⟩:=aQ.head;have HH:=aa hh;have bg:=aa (ad.out ex s1 rfl);have b6:=aa (a6.out O d rfl);obtain⟨s0,e0,Z,ar⟩:=HR.len ex s1 rfl;obtain⟨bE,e1,a0,au⟩:=D.len O d rfl;cases e0;cases e1;have a0:d.ts.length+1<=s1.ts.length:=a0;have Z:s1.ts.length+1<=s.ts.length:=Z;have bo:d.ts.length+2<=s.ts.length:=by omega
  have a5:d.d=s.d:=au.trans ar;have bB:=iH d;have bp:=iH (aS d);clear hh aF a9 ad a6 R;go_wp2_with fail;refine(cC z P _ _ _ _ nn HH.out).mono ?_;rintro e g ⟨rfl,hg⟩;have HG:=aa (hg.alloc hg.size (.cells #[.int .i64 (hd (aS d)).kind,.string ⟨(hd (aS d)).text.toArray⟩,.int .i64 nn] 59));generalize hv:g.alloc (.cells #[.int .i64 (hd (aS d)).kind,.string ⟨(hd (aS d)).text.toArray⟩,.int .i64 nn] 59)=v at HG;have HV:=aa (show TV v g.heap.size _ _ nn by rw[<- hv];exact af _ _);have bu:=hg.size;have be:=aa (aQ.on HG.out);have bk:=aa (ak.below HG.out);have bh:=aa (bg.on (bA.below HG.out _));have b7:=aa (b6.on (aX.below HG.out));have bb:=aa (aK.on HG.out);clear hg;go_wp2_with fail;refine(p9 v P (some (aS d)) be.out wIf).mono ?_;rintro e r ⟨rfl,I,K⟩;have bi:=aa (HV.chg I (by omega));have al:=aa (bk.chg I (by omega));have aU:=aa (bh.on (I.same λk hk e=>by omega));have aH:=aa (b7.on (I.sameOn λk hk e=>by have:w.heap.size+1<=k:=hk;omega));have aL:=aa (bb.then I);have aP:=aa K;have bx:w.heap.size<r.heap.size:=ab al.out;clear I K hv;obtain⟨ii,aB⟩:∃ii,isO wIf (some (aS d))=ii:=⟨_,rfl⟩;have T:=aa (show isW wIf (aS d)=ii from aB);rw[aB];clear aB;cases ii with
  | true =>
   have J:=aa (show PG r P (aS (aS d)) from by have:=aP.out;rw[ny T.out]at this;exact this);obtain⟨c0,c1,c2⟩:=bi.c;go_wp2_with fail;refine(hBr r P (aS (aS d)) nn J.out (by omega)).mono ?_;rintro e t ⟨eb,qb,rfl,br,bt,f,L⟩;have aZ:=aL.then f.chg;have ao:=al.chg f.chg (by omega);have W:=aa (ao.below ((ai _ _).alloc (ag _) (.cells #[pB eb] 195)));have C:=aa ao;have aj:=aa (aU.on (f.chg.same λk hk e=>by omega));have a7:=aa (aH.on (f.chg.sameOn λk hk e=>by have:w.heap.size+1<=k:=hk;omega));have a8:=aa aZ;have E:=aa f;have ac:=aa L;have f6:=W.free 6;have n6:(t.alloc (.cells #[pB eb] 195)).cell? ⟨w.heap.size,6,none⟩=some bX:=(ae W.out 6).trans rfl;clear f L aZ ao c0 c1 c2;go_wp2_with fail;go_ret;have aq:Below t.heap.size t (t.alloc (.cells #[pB eb] 195)):=az;refine⟨w.heap.size,qb.map λb=>(.iff ex O [b.1],b.2),rfl,ag _,by simp[World.setCell];have:=ab C.out;omega,⟨(a8.on aq).setCell (p:=⟨w.heap.size,6,none⟩) (λe=>absurd e (by show¬(w.heap.size<w.heap.size);omega)) _,oR HR.out.out D.out.out ?_,?_,?_⟩,?_⟩
   ·have e:(λn=>(some (ex,s1)).bind λr=>(some (O,d)).bind (my r.1 n))=λn=>(dz n (aS (aS d))).bind λb=>some (Sm.iff ex O [b.1],b.2):=by
     funext n;show my ex n (O,d)=_;unfold my;rw[ax aV.out,ax T.out]
    rw[e];exact Out.map E.out.out _
   ·have:=(E.st.on aq).setOther W.out (by decide) (by decide) X 6 (.slice (some ⟨t.heap.size,0,none⟩) 1 1)
    cases qb<;>exact this
   ·intro x c e
    cases qb with
    | none=>cases e
    | some b =>
     cases e;obtain⟨s3,e3,aC,av⟩:=E.len b.1 b.2 rfl;cases e3;exact⟨s,rfl,by have:b.2.ts.length+1<=_:=aC;show b.2.ts.length+1<=_;omega,av.trans a5⟩
   ·intro x c e
    cases qb with
    | none=>cases e
    | some b =>
     cases e;rw[ci];have sm:bA (w.heap.size+1) t ((t.alloc (.cells #[pB eb] 195)).setCell ⟨w.heap.size,6,none⟩ (.slice (some ⟨t.heap.size,0,none⟩) 1 1)):=λk o hk B=>bA.setCell _ (p:=⟨w.heap.size,6,none⟩) (lo:=w.heap.size+1) (by show w.heap.size<_;omega) _ k o hk (bA.below aq _ k o hk B);obtain⟨bs,B,hs⟩:=a7.out;have b3:=((ac.out b.1 b.2 rfl).weak (A':=Ge (w.heap.size+1)) λk _ hk=>ay (by omega) hk).onA (w':=(t.alloc (.cells #[pB eb] 195)).setCell ⟨w.heap.size,6,none⟩ (.slice (some ⟨t.heap.size,0,none⟩) 1 1)) λk o hk B=>sm k o hk B;obtain⟨b2,aD,aE⟩:=jU.one (cap:=1) (g:=t.heap.size) b3 (by rw[aM _ _ _ _ (by show t.heap.size≠w.heap.size;have:=ab C.out;omega)];exact af _ _) (by have:=ab C.out;omega);exact⟨ag _,Q,F,(.slice i A m),_,bs,b2,aA (j:=6) W.out _,(aj.on sm).lower (by omega),(B.on λk o hk B=>sm k o hk B).weak λk _ hk=>ay (ft _) hk,(hs.onA λk o hk B=>sm k o hk B).weak λk _ hk=>ay (ft _) hk,aD.weak λk _ hk=>ay (ft _) hk,aE.weak λk _ hk=>ay (ft _) hk⟩
  | false =>
   have J:=aa (show PG r P (aS d) from by have:=aP.out;rw[pG (show isO wIf (some (aS d))=false from T.out)]at this;exact this);go_wp2_with fail;refine(hBl r P (some (aS d)) J.out (λc e=>by cases e;omega)).mono ?_;rintro e t ⟨a1,a4,a3,qb,rfl,f,L⟩;have C:=aa (al.chg f.chg (by omega));have aj:=aa (aU.on (f.chg.same λk hk e=>by omega));have a7:=aa (aH.on (f.chg.sameOn λk hk e=>by have:w.heap.size+1<=k:=hk;omega));have a8:=aa (aL.then f.chg);have E:=aa f;have ac:=aa L;have f6:=C.free 6;have n6:t.cell? ⟨w.heap.size,6,none⟩=some bX:=(ae C.out 6).trans rfl;clear f L;go_wp2_with fail;go_ret;refine⟨w.heap.size,qb.map λb=>(.iff ex O b.1,b.2),rfl,ag _,by simp[World.setCell];have:=ab C.out;omega,⟨a8.setCell (p:=⟨w.heap.size,6,none⟩) (λe=>absurd e (by show¬(w.heap.size<w.heap.size);omega)) _,oR HR.out.out D.out.out ?_,?_,?_⟩,?_⟩
   ·have e:(λn=>(some (ex,s1)).bind λr=>(some (O,d)).bind (my r.1 n))=λn=>(dc n (aS d)).bind λb=>some (Sm.iff ex O b.1,b.2):=by
     funext n;show my ex n (O,d)=_;unfold my;rw[ax aV.out,ap (by rw[T.out];decide)]
    rw[e];exact Out.map E.out.out _
   ·have:=E.st.setOther C.out (by decide) (by decide) X 6 (.slice a1 a4 a3)
    cases qb<;>exact this
   ·intro x c e
    cases qb with
    | none=>cases e
    | some b =>
     cases e;obtain⟨s3,e3,aC,av⟩:=E.len b.1 b.2 rfl;cases e3;exact⟨s,rfl,by have:b.2.ts.length+1<=_:=aC;show b.2.ts.length+1<=_;omega,av.trans a5⟩
   ·intro x c e
    cases qb with
    | none=>cases e
    | some b =>
     cases e;rw[ci];have sm:bA (w.heap.size+1) t (t.setCell ⟨w.heap.size,6,none⟩ (.slice a1 a4 a3)):=bA.setCell _ (p:=⟨w.heap.size,6,none⟩) (by show w.heap.size<_;omega) _;obtain⟨bs,B,hs⟩:=a7.out;obtain⟨b2,aD,aE⟩:=((ac.out b.1 b.2 rfl).weak (A':=Ge (w.heap.size+1)) λk _ hk=>ay (by omega) hk).on (w':=t.setCell ⟨w.heap.size,6,none⟩ (.slice a1 a4 a3)) λk o hk B=>sm k o hk B;exact⟨ag _,Q,F,(.slice i A m),(.slice a1 a4 a3),bs,b2,aA (j:=6) C.out _,(aj.on sm).lower (by omega),(B.on λk o hk B=>sm k o hk B).weak λk _ hk=>ay (ft _) hk,(hs.onA λk o hk B=>sm k o hk B).weak λk _ hk=>ay (ft _) hk,aD.weak λk _ hk=>ay (ft _) hk,aE.weak λk _ hk=>ay (ft _) hk⟩
def lW (s:PS) (P:Nat) (w:World) (e:Ending) (w':World):Prop:=
 ∃b q,e=.returned (pB b)/\w.heap.size<=b/\b<w'.heap.size/\Rd ek (some s) P w q w'/\∀x s',q=some (x,s')->ci w' (Ge w.heap.size) b x
theorem yi.fin {kk:Int} {l:Value} {s1:PS} {u':World} {e:Ending} (h:yi P X kk nm p l ln s1 u e u') (hc:Chg (·=P) w u) (hX:w.heap.size<=X) (hs:s1.ts.length<=s.ts.length) (hd:s1.d=s.d) (mk:Ex->Sm)
 (hf:∀o,Out (λn=>dy n s1) o->Out (λn=>ek n s) (o.map λr=>(mk r.1,r.2)))
 (hst:∀rb x,Chg (λk=>k=P\/k=X) u u'->bK u' (Ge w.heap.size) rb x->StN u' X kk nm p l (pB rb) bX bX ln->ci u' (Ge w.heap.size) X (mk x)):lW s P w e u':=by
 obtain⟨rfl,q,rb,m,a,f,hn,g⟩:=h;have c:Out (λn=>(some s).bind (ek n)) (q.map λr=>(mk r.1,r.2)):=hf q m;refine⟨X,q.map λr=>(mk r.1,r.2),rfl,hX,ab hn,⟨hc.trans a (λi hi q=>q.elim id (λe=>by omega)),c,?_,?_⟩,?_⟩
 ·cases q<;>exact f
 ·intro x t e
  cases q with
  | none=>cases e
  | some r =>
   cases e;obtain⟨_,j,b⟩:=g r.1 r.2 rfl;exact⟨s,rfl,ay j hs,b.trans hd⟩
 ·intro x t e
  cases q with
  | none=>cases e
  | some r =>
   cases e;exact hst rb r.1 a ((g r.1 r.2 rfl).1.lower hc.size) hn
theorem nu (wd:Tx) (s:PS):(cF wd s).1=isO wd (some s):=by
 show _=isW wd s;unfold cF;cases h:isW wd s with
 | true=>rw[ax rfl]
 | false=>rw[ap (by decide)]
theorem nt (wd:Tx) (s:PS):(cF wd s).2.ts.length<=s.ts.length/\(cF wd s).2.d=s.d:=by
 unfold cF;split
 ·exact⟨iH s,rfl⟩
 ·exact⟨ag _,rfl⟩
theorem qH {r:Tx×PS} (h:cR s=some r):r.2.ts.length<=s.ts.length/\r.2.d=s.d:=by
 unfold cR at h;split at h
 ·cases h;exact⟨iH s,rfl⟩
 ·cases h
structure SFr (w q:World) (P X XB:Nat) (o:Option PS):Prop where
 chg:Chg (·=P) w q
 po:PO q P o
 b:One q w.heap.size (pB P) 51
 xb:One q XB (pB X) 195
 l0:P<w.heap.size
 l1:w.heap.size<X
 l2:X<XB
theorem SFr.go {o':Option PS} (h:SFr w q P X XB o) (hc:Chg (·=P) q q') (ho:PO q' P o'):SFr w q' P X XB o':=
 ⟨h.chg.then hc,ho,h.b.chg hc (by have:=h.l0;omega),h.xb.chg hc (by have:=h.l0;have:=h.l1;have:=h.l2;omega),h.l0,h.l1,h.l2⟩
theorem SFr.on (h:SFr w q P X XB o) (hb:Below q.heap.size q q'):SFr w q' P X XB o:=h.go (.of_below hb) (h.po.on hb)
theorem SFr.set (h:SFr w q P X XB o) {l:Value} (hn:StN q X k nm p l r th el ln) (j:Nat) (v:Value):SFr w (q.setCell ⟨X,j,none⟩ v) P X XB o:=by
 have a:=h.l0;have b:=h.l1;have c:=h.l2;exact⟨h.chg.setCell (p:=⟨X,j,none⟩) (λe=>absurd e (by show¬(X<w.heap.size);omega)) v,h.po.setOther hn (by decide) (by decide) (by omega) j v,h.b.setOther (p:=⟨X,j,none⟩) (by show X≠_;omega) v,h.xb.setOther (p:=⟨X,j,none⟩) (by show X≠_;omega) v,a,b,c⟩
theorem SFr.n (h:SFr w q P X XB o):¬X=P:=by have:=h.l0;have:=h.l1;omega
theorem SFr.nb (h:SFr w q P X XB o):¬X=w.heap.size:=by have:=h.l1;omega
theorem SFr.nx (h:SFr w q P X XB o):¬X=XB:=by have:=h.l2;omega
theorem SFr.cs (h:SFr w q P X XB o):q.cell? ⟨w.heap.size,0,none⟩=some (pB P)/\q.cell? ⟨XB,0,none⟩=some (pB X):=⟨h.b.c,h.xb.c⟩
theorem SFr.cs1 (h:SFr w q P X XB o) (j:Nat) (v:Value):(q.setCell ⟨X,j,none⟩ v).cell? ⟨w.heap.size,0,none⟩=some (pB P)/\(q.setCell ⟨X,j,none⟩ v).cell? ⟨XB,0,none⟩=some (pB X):=
 ⟨gP (p:=⟨X,j,none⟩) h.b.c (by exact h.nb),gP (p:=⟨X,j,none⟩) h.xb.c (by exact h.nx)⟩
theorem SFr.cs2 (h:SFr w q P X XB o) (j j2:Nat) (v v2:Value):((q.setCell ⟨X,j,none⟩ v).setCell ⟨X,j2,none⟩ v2).cell? ⟨w.heap.size,0,none⟩=some (pB P)/\((q.setCell ⟨X,j,none⟩ v).setCell ⟨X,j2,none⟩ v2).cell? ⟨XB,0,none⟩=some (pB X):=
 ⟨gP (p:=⟨X,j2,none⟩) (h.cs1 j v).1 (by exact h.nb),gP (p:=⟨X,j2,none⟩) (h.cs1 j v).2 (by exact h.nx)⟩
theorem StN.cell {l:Value} (h:StN w X k nm p l r th el ln) (j:Nat):w.cell? ⟨X,j,none⟩=#[.int .i64 k,.string ⟨nm.toArray⟩,.bool p,l,r,th,el,.int .i64 ln][j]?:=ae h j
theorem Out.stm {f:Nat->Option (Sm×PS)} {o:Option (Sm×PS)} (h:Out f o) (hs:∀n,ek (n+1) s=f n):Out (λn=>ek n s) o:=Out.up h rfl hs
end Go.Proofs.YtbeaaimcpkogcaaGreatDoor
