/- Lemmas on the way to the claim. -/
import Derived.Test.YtbeaaimcpkogcaaGreatDoorM24
set_option linter.unusedSimpArgs false
set_option linter.unusedVariables false
set_option maxHeartbeats 4000000
set_option maxRecDepth 100000
namespace Go.Proofs.YtbeaaimcpkogcaaGreatDoor
open Go.Proofs.Tryz Go.RowKit
variable {w:World} {f k md mf mt mu n sz:Nat} {fs:List Fun} {bs:List Nat} {nm:Tx} {L U0:Tx->Option Value} {ur:Option Nat} {c:CS}
def tN (w:World) (mu:Nat) (c:CS):Prop:=(∃sz L,bz w mu L sz/\sz+c.left+1<=1000000)/\c.uses.length+c.left+1<=1000000
theorem KI.strict (h:KI w n k f mf mu md mt fs bs nm U0 ur c) (h5:¬mu=k) (hl:c.left≠0) (x:Value):tN (w.setCell ⟨k,2,none⟩ x) mu (bF c):=by
 obtain⟨sz,L,d,e,g,i,j⟩:=h.uses;have a:Chg (·=k) w (w.setCell ⟨k,2,none⟩ x):=Chg.setCell (S:=(·=k)) (p:=⟨k,2,none⟩) (Chg.refl _ _) (λ_=>rfl) _;have b:=h.usesl;exact⟨⟨sz,L,d.chg a h5,by show sz+(c.left-1)+1<=_;omega⟩,by show c.uses.length+(c.left-1)+1<=_;omega⟩
theorem bz.size_eq {b sz':Nat} {L':Tx->Option Value} (h:bz w b L sz) (h':bz w b L' sz'):sz=sz':=by
 obtain⟨D,⟨o,d,j,F,p,i⟩,_,l,_⟩:=h;obtain⟨m,⟨g,c,a,n,k,e⟩,_,f,_⟩:=h';rw[j]at a;simp only[aq,Obj.map.injEq]at a;obtain⟨rfl,rfl⟩:=a;rw[<- l,<- f,i,e]
def xS (fs:List Fun) (s:Tx) (args:List Ex) (c:CS):Option (Bool×CS):=
 (km fs s).bind λg=>(rr fs args { c with uses:=c.uses++[s] }).bind λk=>if k.1=g.params.map (·.ptr)then some (g.ptr,k.2)else none
def G8 (fs:List Fun) (bs:List Nat) (nm:Tx) (U0:Tx->Option Value) (lo:Nat) (s:Tx) (args:List Ex):Prop:=
 ∀w n k f mf mu md mt ur c b v xs ln,KI w n k f mf mu md mt fs bs nm U0 ur c->tN w mu c->KD n k f mf mu md mt ur lo->Env w lo bs fs->b<lo->w.heap[b]?=some (exC 4 0 s [] (.pointer none) (.pointer none) v ln)->li w (Lt lo) 261 v xs.length (xs.map pB)->dn w (Lt lo) xs args->s.length<=4294967296->args.length<=1000000->Eh args ->
  Calls prog 273 #[pB n,pB b] w (cm MD (xS fs s args c) n k f mf mu md mt fs bs nm U0 ur lo w)
def il (fs:List Fun):Ex->CS->Option (Bool×CS)
 | .num _,c=>some (false,c)
 | .inp,c=>some (false,c)
 | .name s,c=>(qX s c).bind λp=>some (p,c)
 | .un t r,c=>(dQ fs r false c).map λc'=>(false,c')
 | .bin t l r,c=>((gD fs l r c).bind λq=>if q.1.1=false/\q.1.2=false then some ((),q.2)else none).map λq=>(false,q.2)
 | .call s args,c=>xS fs s args c
 | .cell l r,c=>(gD fs l r c).bind λq=>if q.1.1=true/\q.1.2=false then some (false,q.2)else none
 | .link l r,c=>(gD fs l r c).bind λq=>if q.1.1=true/\q.1.2=false then some (true,q.2)else none
 | .new l,c=>(dQ fs l false c).map λc'=>(true,c')
theorem kN (fs:List Fun) (x:Ex) (c:CS) (hw:ExW x):gA fs x c=(bV c).bind (il fs x):=by
 cases x with
 | num m=>rw[gA];rfl
 | inp=>rw[gA];rfl
 | name s=>rw[gA];rfl
 | un t r =>
  rw[gA];unfold ExW at hw;cases bV c with
  | none=>rfl
  | some c1 =>
   simp only[aj];rw[ax hw.1];show _=(dQ fs r false c1).map _;unfold dQ;cases gA fs r c1 with
   | none=>rfl
   | some k=>simp only[aj];split<;>rfl
 | bin t l r =>
  rw[gA];unfold ExW at hw;cases bV c with
  | none=>rfl
  | some c1 =>
   simp only[aj];rw[ap hw.1];show _=((gD fs l r c1).bind _).map _;unfold gD;cases gA fs l c1 with
   | none=>rfl
   | some a =>
    simp only[aj];cases gA fs r a.2 with
    | none=>rfl
    | some b=>simp only[aj];split<;>rfl
 | call s args=>rw[gA];rfl
 | cell l r =>
  rw[gA];cases bV c with
  | none=>rfl
  | some c1 =>
   simp only[aj];show _=(gD fs l r c1).bind _;unfold gD;cases gA fs l c1 with
   | none=>rfl
   | some a=>simp only[aj];cases gA fs r a.2<;>rfl
 | link l r =>
  rw[gA];cases bV c with
  | none=>rfl
  | some c1 =>
   simp only[aj];show _=(gD fs l r c1).bind _;unfold gD;cases gA fs l c1 with
   | none=>rfl
   | some a=>simp only[aj];cases gA fs r a.2<;>rfl
 | new l =>
  rw[gA];cases bV c with
  | none=>rfl
  | some c1 =>
   simp only[aj];show _=(dQ fs l false c1).map _;unfold dQ;cases gA fs l c1 with
   | none=>rfl
   | some k=>simp only[aj];split<;>rfl
theorem K1 (fs:List Fun) (bs:List Nat) (nm:Tx) (U0:Tx->Option Value) (lo:Nat) (m:Nat):ExC fs bs nm U0 lo (.num m):=by
 intro w n k f D mu S T E c b C l hd L B M;have a:=kN fs (.num m) c M;rw[a];have q:=aa a;rw[bK]at B;obtain⟨K,j,hn⟩:=B;have A:b<lo:=K;have R:=hd.l;have P:w.cell? ⟨b,7,none⟩=some (.int .i64 j):=(ae hn 7).trans rfl;have O:w.cell? ⟨n,0,none⟩=some (pB k):=(ae l.hn 0).trans rfl;have I:=aa hn;have H:=aa l;clear a q hn
 by_cases h0:c.left=0
 ·have y:Hid (bV c=none):=by show bV c=none;rw[dE,ax h0]
  have v:=l.hk;rw[h0]at v;have h:=aa (jQ w.drew k D mu j v);clear v h0 l
  go_enter func265,ntmps265
  go_wp2_with fail;refine(bi w 2 C).mono ?_;rintro e u ⟨rfl,rfl⟩;go_wp2_with fail
  go_still_tail 8,(by kernel_rfl)
  change wpList _ _ _ _ _ w.drew;go_wp2_with fail;refine h.mono ?_;rintro e u ⟨⟨c1,N,rfl⟩,rfl⟩;go_wp2_with fail;exact⟨rfl,cm.gave (by rw[y.out];rfl) (Chg.of_below (ai _ _).drew) c1 N⟩
 ·have y:Hid (bV c=some (bF c)):=by show bV c=some _;rw[dE,ap h0]
  have h:=aa (iI w.drew k c.left D mu j l.hk l.lefts h0);have r:Below w.heap.size w w.drew:=(ai _ _).drew;have i:Chg (KS k mu E) w (w.drew.setCell ⟨k,2,none⟩ (.int .i64 ((c.left-1:Nat):Int))):=(Chg.of_below r).setCell (p:=⟨k,2,none⟩) (λ_=>.inl rfl) _;have t:=KI.part (l.below r) hd.an.1 (by omega) (λe=>hd.ak.1 e.symm) (λe=>hd.ak.2.1 e.symm) (λe=>hd.ak.2.2.1 e.symm) (λe=>hd.ak.2.2.2 e.symm) (λg hg=>(hd.au g hg).2.2.1) h0;have x:=KS.tree hd i;have d:=x b _ A I.out;have s:=L.onA x;clear r h0 l
  go_enter func265,ntmps265
  go_wp2_with fail;refine(bi w 2 C).mono ?_;rintro e u ⟨rfl,rfl⟩;go_wp2_with fail
  go_still_tail 8,(by kernel_rfl)
  change wpList _ _ _ _ _ w.drew;go_wp2_with fail;refine h.mono ?_;rintro e u ⟨rfl,rfl⟩;have z:Hid (∀o,il fs (.num m) (bF c)=o->((bV c).bind (il fs (.num m)))=o):=λo ho=>by rw[y.out];exact ho
  generalize w.drew.setCell ⟨k,2,none⟩ (.int .i64 ((c.left-1:Nat):Int))=w2 at i t d s  ⊢;have F:=aa i;have G:=aa t;have J:=aa d;have Q:=aa s;have U:w2.cell? ⟨b,0,none⟩=some (.int .i64 1):=(ae d 0).trans rfl;have z7:w2.cell? ⟨b,7,none⟩=some (.int .i64 j):=(ae d 7).trans rfl;clear i t d s x P O h;go_wp2_with fail;go_ret;exact cm.ret (p:=false) (c':=bF c) (z.out _ rfl) F.out rfl ⟨E,G.out,hd,.inl rfl⟩
theorem K3 (fs:List Fun) (bs:List Nat) (nm:Tx) (U0:Tx->Option Value) (lo:Nat):ExC fs bs nm U0 lo .inp:=by
 intro w n k f C mu R S D c b B l hd K A L;have a:=kN fs .inp c L;rw[a];have m:=aa a;rw[bK]at A;obtain⟨J,j,hn⟩:=A;have z:b<lo:=J;have Q:=hd.l;have O:w.cell? ⟨b,7,none⟩=some (.int .i64 j):=(ae hn 7).trans rfl;have N:w.cell? ⟨n,0,none⟩=some (pB k):=(ae l.hn 0).trans rfl;have H:=aa hn;have G:=aa l;clear a m hn
 by_cases h0:c.left=0
 ·have x:Hid (bV c=none):=by show bV c=none;rw[dE,ax h0]
  have t:=l.hk;rw[h0]at t;have h:=aa (jQ w.drew k C mu j t);clear t h0 l
  go_enter func265,ntmps265
  go_wp2_with fail;refine(bi w 2 B).mono ?_;rintro e u ⟨rfl,rfl⟩;go_wp2_with fail
  go_still_tail 8,(by kernel_rfl)
  change wpList _ _ _ _ _ w.drew;go_wp2_with fail;refine h.mono ?_;rintro e u ⟨⟨c1,M,rfl⟩,rfl⟩;go_wp2_with fail;exact⟨rfl,cm.gave (by rw[x.out];rfl) (Chg.of_below (ai _ _).drew) c1 M⟩
 ·have x:Hid (bV c=some (bF c)):=by show bV c=some _;rw[dE,ap h0]
  have h:=aa (iI w.drew k c.left C mu j l.hk l.lefts h0);have q:Below w.heap.size w w.drew:=(ai _ _).drew;have i:Chg (KS k mu D) w (w.drew.setCell ⟨k,2,none⟩ (.int .i64 ((c.left-1:Nat):Int))):=(Chg.of_below q).setCell (p:=⟨k,2,none⟩) (λ_=>.inl rfl) _;have s:=KI.part (l.below q) hd.an.1 (by omega) (λe=>hd.ak.1 e.symm) (λe=>hd.ak.2.1 e.symm) (λe=>hd.ak.2.2.1 e.symm) (λe=>hd.ak.2.2.2 e.symm) (λg hg=>(hd.au g hg).2.2.1) h0;have v:=KS.tree hd i;have d:=v b _ z H.out;have r:=K.onA v;clear q h0 l
  go_enter func265,ntmps265
  go_wp2_with fail;refine(bi w 2 B).mono ?_;rintro e u ⟨rfl,rfl⟩;go_wp2_with fail
  go_still_tail 8,(by kernel_rfl)
  change wpList _ _ _ _ _ w.drew;go_wp2_with fail;refine h.mono ?_;rintro e u ⟨rfl,rfl⟩;have y:Hid (∀o,il fs .inp (bF c)=o->((bV c).bind (il fs .inp))=o):=λo ho=>by rw[x.out];exact ho
  generalize w.drew.setCell ⟨k,2,none⟩ (.int .i64 ((c.left-1:Nat):Int))=w2 at i s d r  ⊢;have E:=aa i;have F:=aa s;have I:=aa d;have P:=aa r;have T:w2.cell? ⟨b,0,none⟩=some (.int .i64 8):=(ae d 0).trans rfl;have z7:w2.cell? ⟨b,7,none⟩=some (.int .i64 j):=(ae d 7).trans rfl;clear i s d r v O N h;go_wp2_with fail;go_ret;exact cm.ret (p:=false) (c':=bF c) (y.out _ rfl) E.out rfl ⟨D,F.out,hd,.inl rfl⟩
theorem Jj (fs:List Fun) (bs:List Nat) (nm:Tx) (U0:Tx->Option Value) (lo:Nat) (s:Tx):ExC fs bs nm U0 lo (.name s):=by
 intro w n k f M mu L N O c b K m hd T I J;have a:=kN fs (.name s) c J;rw[a];have r:=aa a;rw[bK]at I;obtain⟨S,h,hn⟩:=I;have F:b<lo:=S;have X:=hd.l;have V:w.cell? ⟨b,7,none⟩=some (.int .i64 h):=(ae hn 7).trans rfl;have U:w.cell? ⟨n,0,none⟩=some (pB k):=(ae m.hn 0).trans rfl;have Q:=aa hn;have P:=aa m;clear a r hn
 by_cases h0:c.left=0
 ·have E:Hid (bV c=none):=by show bV c=none;rw[dE,ax h0]
  have y:=m.hk;rw[h0]at y;have i:=aa (jQ w.drew k M mu h y);clear y h0 m
  go_enter func265,ntmps265
  go_wp2_with fail;refine(bi w 2 K).mono ?_;rintro e u ⟨rfl,rfl⟩;go_wp2_with fail
  go_still_tail 8,(by kernel_rfl)
  change wpList _ _ _ _ _ w.drew;go_wp2_with fail;refine i.mono ?_;rintro e u ⟨⟨c1,G,rfl⟩,rfl⟩;go_wp2_with fail;exact⟨rfl,cm.gave (by rw[E.out];rfl) (Chg.of_below (ai _ _).drew) c1 G⟩
 ·have E:Hid (bV c=some (bF c)):=by show bV c=some _;rw[dE,ap h0]
  have i:=aa (iI w.drew k c.left M mu h m.hk m.lefts h0);have t:Below w.heap.size w w.drew:=(ai _ _).drew;have j:Chg (KS k mu O) w (w.drew.setCell ⟨k,2,none⟩ (.int .i64 ((c.left-1:Nat):Int))):=(Chg.of_below t).setCell (p:=⟨k,2,none⟩) (λ_=>.inl rfl) _;have x:=KI.part (m.below t) hd.an.1 (by omega) (λe=>hd.ak.1 e.symm) (λe=>hd.ak.2.1 e.symm) (λe=>hd.ak.2.2.1 e.symm) (λe=>hd.ak.2.2.2 e.symm) (λg hg=>(hd.au g hg).2.2.1) h0;have z:=KS.tree hd j;have d:=z b _ F Q.out;have v:=T.onA z;clear t h0 m
  go_enter func265,ntmps265
  go_wp2_with fail;refine(bi w 2 K).mono ?_;rintro e u ⟨rfl,rfl⟩;go_wp2_with fail
  go_still_tail 8,(by kernel_rfl)
  change wpList _ _ _ _ _ w.drew;go_wp2_with fail;refine i.mono ?_;rintro e u ⟨rfl,rfl⟩;have A:Hid (∀o,il fs (.name s) (bF c)=o->((bV c).bind (il fs (.name s)))=o):=λo ho=>by rw[E.out];exact ho
  generalize w.drew.setCell ⟨k,2,none⟩ (.int .i64 ((c.left-1:Nat):Int))=w2 at j x d v  ⊢;have H:=aa j;have C:=aa x;have R:=aa d;have W:=aa v;have Y:w2.cell? ⟨b,0,none⟩=some (.int .i64 2):=(ae d 0).trans rfl;have z7:w2.cell? ⟨b,7,none⟩=some (.int .i64 h):=(ae d 7).trans rfl;have Z:w2.cell? ⟨b,2,none⟩=some (.string ⟨s.toArray⟩):=(ae d 2).trans rfl;clear j x d v z V U i;have B:s.length<=4294967296:=J;obtain⟨sz,l,_⟩:=C.there;cases ho:c.there.lookup s with
  | none =>
   have q:=aa (vm w2.drew n k f L N s h sz _ C.hn (l.below (ai _ _).drew) B (by show(c.there.lookup s).map Value.bool=none;rw[ho];rfl));have D:=aa ho;clear ho l;go_wp2_with fail
   go_still_tail 9,(by kernel_rfl)
   change wpList _ _ _ _ _ w2.drew;go_wp2_with fail;refine q.mono ?_;rintro e u ⟨⟨c1,G,rfl⟩,rfl⟩;go_wp2_with fail;exact⟨rfl,cm.gave (A.out _ (by show(qX s (bF c)).bind _=none;rw[show qX s (bF c)=none from D.out];rfl)) H.drew c1 G⟩
  | some p =>
   have q:=aa (vl w2.drew n k f L N s h p sz _ C.hn (l.below (ai _ _).drew) B (by show(c.there.lookup s).map Value.bool=some (.bool p);rw[ho];rfl));have D:=aa ho;clear ho l;go_wp2_with fail
   go_still_tail 9,(by kernel_rfl)
   change wpList _ _ _ _ _ w2.drew;go_wp2_with fail;refine q.mono ?_;rintro e u ⟨rfl,rfl⟩;go_wp2_with fail;go_ret;exact cm.ret (p:=p) (c':=bF c) (A.out _ (by show(qX s (bF c)).bind _=_;rw[show qX s (bF c)=some p from D.out];rfl)) H.drew rfl ⟨O,C.below (ai _ _).drew,hd,.inl rfl⟩
theorem Mm (fs:List Fun) (bs:List Nat) (nm:Tx) (U0:Tx->Option Value) (lo:Nat) (t:Tx) (r:Ex) (hr:ExC fs bs nm U0 lo r):ExC fs bs nm U0 lo (.un t r):=by
 intro w n k f K mu W X Y c b ln s hd hf ht L;have a:=kN fs (.un t r) c L;rw[a];have v:=aa a;rw[bK]at ht;obtain⟨hb,i,rb,hn,U⟩:=ht;have F:b<lo:=hb;have hl:=hd.l;have q7:w.cell? ⟨b,7,none⟩=some (.int .i64 i):=(ae hn 7).trans rfl;have p0:w.cell? ⟨n,0,none⟩=some (pB k):=(ae s.hn 0).trans rfl;have HN:=aa hn;have a0:=aa s;clear a v hn
 by_cases h0:c.left=0
 ·have Q:Hid (bV c=none):=by show bV c=none;rw[dE,ax h0]
  have B:=s.hk;rw[h0]at B;have j:=aa (jQ w.drew k K mu i B);clear B h0 s
  go_enter func265,ntmps265
  go_wp2_with fail;refine(bi w 2 ln).mono ?_;rintro e u ⟨rfl,rfl⟩;go_wp2_with fail
  go_still_tail 8,(by kernel_rfl)
  change wpList _ _ _ _ _ w.drew;go_wp2_with fail;refine j.mono ?_;rintro e u ⟨⟨c1,V,rfl⟩,rfl⟩;go_wp2_with fail;exact⟨rfl,cm.gave (by rw[Q.out];rfl) (Chg.of_below (ai _ _).drew) c1 V⟩
 ·have Q:Hid (bV c=some (bF c)):=by show bV c=some _;rw[dE,ap h0]
  have j:=aa (iI w.drew k c.left K mu i s.hk s.lefts h0);have x:Below w.heap.size w w.drew:=(ai _ _).drew;have l:Chg (KS k mu Y) w (w.drew.setCell ⟨k,2,none⟩ (.int .i64 ((c.left-1:Nat):Int))):=(Chg.of_below x).setCell (p:=⟨k,2,none⟩) (λ_=>.inl rfl) _;have A:=KI.part (s.below x) hd.an.1 (by omega) (λe=>hd.ak.1 e.symm) (λe=>hd.ak.2.1 e.symm) (λe=>hd.ak.2.2.1 e.symm) (λe=>hd.ak.2.2.2 e.symm) (λg hg=>(hd.au g hg).2.2.1) h0;have m:=KS.tree hd l;have d:=m b _ F HN.out;have z:=hf.onA m;have C:=U.onA m;clear x h0 s
  go_enter func265,ntmps265
  go_wp2_with fail;refine(bi w 2 ln).mono ?_;rintro e u ⟨rfl,rfl⟩;go_wp2_with fail
  go_still_tail 8,(by kernel_rfl)
  change wpList _ _ _ _ _ w.drew;go_wp2_with fail;refine j.mono ?_;rintro e u ⟨rfl,rfl⟩;have E:Hid (∀o,il fs (.un t r) (bF c)=o->((bV c).bind (il fs (.un t r)))=o):=λo ho=>by rw[Q.out];exact ho
  generalize w.drew.setCell ⟨k,2,none⟩ (.int .i64 ((c.left-1:Nat):Int))=w2 at l A d z C ⊢;have HC:=aa l;have HK:=aa A;have N:=aa d;have HF:=aa z;have z0:w2.cell? ⟨b,0,none⟩=some (.int .i64 3):=(ae d 0).trans rfl;have z7:w2.cell? ⟨b,7,none⟩=some (.int .i64 i):=(ae d 7).trans rfl;have z4:w2.cell? ⟨b,4,none⟩=some (.pointer none):=(ae d 4).trans rfl;clear l A d z m q7 p0 j;unfold ExW at L;have P:=aa (Mc fs bs nm U0 lo t r hr w2 n k f K mu W X Y (bF c) b rb i HK.out hd HF.out F N.out C L.1 L.2);clear C z4;go_wp2_with fail;refine P.mono ?_;rintro e u ⟨y,M⟩;have D:=aa (HC.then y);have T:=HC.size;cases ho:dQ fs r false (bF c)with
  | none =>
   rw[ho]at M;obtain⟨c1,V,rfl⟩:=M;have O:=aa ho;clear ho y;go_wp2_with fail;exact⟨rfl,cm.gave (E.out _ (by show(dQ fs r false (bF c)).map _=none;rw[O.out];rfl)) D.out c1 V⟩
  | some q =>
   rw[ho]at M;have O:=aa ho;clear ho;obtain⟨I,Z,H,G,J⟩:=M;have S:e=.returned (.tuple #[]):=I;subst S;have R:=aa (show∃ur',KI u n k f K mu W X fs bs nm U0 ur' q/\KD n k f K mu W X ur' lo/\(ur'=Y\/∀g,ur'=some g->w.heap.size<=g) from⟨Z,H,G,J.imp id λh g hg=>ay T (h g hg)⟩);clear I H G J y;go_wp2_with fail;go_ret;exact cm.ret (p:=false) (c':=q) (E.out _ (by show(dQ fs r false (bF c)).map _=_;rw[O.out];rfl)) D.out rfl R.out
theorem K4 (fs:List Fun) (bs:List Nat) (nm:Tx) (U0:Tx->Option Value) (lo:Nat) (hbin:Ej) (t:Tx) (l r:Ex) (hl0:ExC fs bs nm U0 lo l) (hr:ExC fs bs nm U0 lo r):ExC fs bs nm U0 lo (.bin t l r):=by
 intro w n k f N mu Z mt ur c b ln v hd hf ht M;have a:=kN fs (.bin t l r) c M;rw[a];have x:=aa a;rw[bK]at ht;obtain⟨hb,j,lb,rb,hn,W,X⟩:=ht;have H:b<lo:=hb;have hl:=hd.l;have q7:w.cell? ⟨b,7,none⟩=some (.int .i64 j):=(ae hn 7).trans rfl;have p0:w.cell? ⟨n,0,none⟩=some (pB k):=(ae v.hn 0).trans rfl;have HN:=aa hn;have a1:=aa v;clear a x hn
 by_cases h0:c.left=0
 ·have S:Hid (bV c=none):=by show bV c=none;rw[dE,ax h0]
  have C:=v.hk;rw[h0]at C;have m:=aa (jQ w.drew k N mu j C);clear C h0 v
  go_enter func265,ntmps265
  go_wp2_with fail;refine(bi w 2 ln).mono ?_;rintro e u ⟨rfl,rfl⟩;go_wp2_with fail
  go_still_tail 8,(by kernel_rfl)
  change wpList _ _ _ _ _ w.drew;go_wp2_with fail;refine m.mono ?_;rintro e u ⟨⟨c1,Y,rfl⟩,rfl⟩;go_wp2_with fail;exact⟨rfl,cm.gave (by rw[S.out];rfl) (Chg.of_below (ai _ _).drew) c1 Y⟩
 ·have S:Hid (bV c=some (bF c)):=by show bV c=some _;rw[dE,ap h0]
  have m:=aa (iI w.drew k c.left N mu j v.hk v.lefts h0);have y:Below w.heap.size w w.drew:=(ai _ _).drew;have s:Chg (KS k mu ur) w (w.drew.setCell ⟨k,2,none⟩ (.int .i64 ((c.left-1:Nat):Int))):=(Chg.of_below y).setCell (p:=⟨k,2,none⟩) (λ_=>.inl rfl) _;have B:=KI.part (v.below y) hd.an.1 (by omega) (λe=>hd.ak.1 e.symm) (λe=>hd.ak.2.1 e.symm) (λe=>hd.ak.2.2.1 e.symm) (λe=>hd.ak.2.2.2 e.symm) (λg hg=>(hd.au g hg).2.2.1) h0;have i:=KS.tree hd s;have d:=i b _ H HN.out;have A:=hf.onA i;have D:=W.onA i;have E:=X.onA i;clear y h0 v
  go_enter func265,ntmps265
  go_wp2_with fail;refine(bi w 2 ln).mono ?_;rintro e u ⟨rfl,rfl⟩;go_wp2_with fail
  go_still_tail 8,(by kernel_rfl)
  change wpList _ _ _ _ _ w.drew;go_wp2_with fail;refine m.mono ?_;rintro e u ⟨rfl,rfl⟩;have G:Hid (∀o,il fs (.bin t l r) (bF c)=o->((bV c).bind (il fs (.bin t l r)))=o):=λo ho=>by rw[S.out];exact ho
  generalize w.drew.setCell ⟨k,2,none⟩ (.int .i64 ((c.left-1:Nat):Int))=w2 at s B d A D E ⊢;have HC:=aa s;have HK:=aa B;have P:=aa d;have HF:=aa A;have z0:w2.cell? ⟨b,0,none⟩=some (.int .i64 3):=(ae d 0).trans rfl;have z7:w2.cell? ⟨b,7,none⟩=some (.int .i64 j):=(ae d 7).trans rfl;clear s B d A i q7 p0 m;unfold ExW at M;have R:=aa (KA hbin fs bs nm U0 lo t l r hl0 hr w2 n k f N mu Z mt ur (bF c) b lb rb j HK.out hd HF.out H P.out D E M.1 M.2.1 M.2.2);clear D E;go_wp2_with fail;refine R.mono ?_;rintro e u ⟨z,O⟩;have F:=aa (HC.then z);have V:=HC.size;cases ho:((gD fs l r (bF c)).bind λq=>if q.1.1=false/\q.1.2=false then some ((),q.2)else none)with
  | none =>
   rw[ho]at O;obtain⟨c1,Y,rfl⟩:=O;have Q:=aa ho;clear ho z;go_wp2_with fail;exact⟨rfl,cm.gave (G.out _ (by show((gD fs l r (bF c)).bind λq=>if q.1.1=false/\q.1.2=false then some ((),q.2)else none).map _=none;rw[Q.out];rfl)) F.out c1 Y⟩
  | some q =>
   rw[ho]at O;have Q:=aa ho;clear ho;obtain⟨⟨⟩,q⟩:=q;obtain⟨K,a0,J,I,L⟩:=O;have U:e=.returned (.tuple #[]):=K;subst U;have T:=aa (show∃ur',KI u n k f N mu Z mt fs bs nm U0 ur' q/\KD n k f N mu Z mt ur' lo/\(ur'=ur\/∀g,ur'=some g->w.heap.size<=g) from⟨a0,J,I,L.imp id λh g hg=>ay V (h g hg)⟩);clear K J I L z;go_wp2_with fail;go_ret;exact cm.ret (p:=false) (c':=q) (G.out _ (by show((gD fs l r (bF c)).bind λq=>if q.1.1=false/\q.1.2=false then some ((),q.2)else none).map _=_;rw[Q.out];rfl)) F.out rfl T.out
theorem Jm (fs:List Fun) (bs:List Nat) (nm:Tx) (U0:Tx->Option Value) (lo:Nat) (s:Tx) (args:List Ex) (hc0:G8 fs bs nm U0 lo s args):ExC fs bs nm U0 lo (.call s args):=by
 intro w n k f O mu Z mt ur c b ln x hd hf ht N;have a:=kN fs (.call s args) c N;rw[a];have y:=aa a;rw[bK]at ht;obtain⟨hb,l,v,xs,hn,K,X⟩:=ht;have H:b<lo:=hb;have hl:=hd.l;have q7:w.cell? ⟨b,7,none⟩=some (.int .i64 l):=(ae hn 7).trans rfl;have p0:w.cell? ⟨n,0,none⟩=some (pB k):=(ae x.hn 0).trans rfl;have HN:=aa hn;have a1:=aa x;clear a y hn
 by_cases h0:c.left=0
 ·have T:Hid (bV c=none):=by show bV c=none;rw[dE,ax h0]
  have C:=x.hk;rw[h0]at C;have m:=aa (jQ w.drew k O mu l C);clear C h0 x
  go_enter func265,ntmps265
  go_wp2_with fail;refine(bi w 2 ln).mono ?_;rintro e u ⟨rfl,rfl⟩;go_wp2_with fail
  go_still_tail 8,(by kernel_rfl)
  change wpList _ _ _ _ _ w.drew;go_wp2_with fail;refine m.mono ?_;rintro e u ⟨⟨c1,Y,rfl⟩,rfl⟩;go_wp2_with fail;exact⟨rfl,cm.gave (by rw[T.out];rfl) (Chg.of_below (ai _ _).drew) c1 Y⟩
 ·have T:Hid (bV c=some (bF c)):=by show bV c=some _;rw[dE,ap h0]
  have m:=aa (iI w.drew k c.left O mu l x.hk x.lefts h0);have r:Below w.heap.size w w.drew:=(ai _ _).drew;have t:Chg (KS k mu ur) w (w.drew.setCell ⟨k,2,none⟩ (.int .i64 ((c.left-1:Nat):Int))):=(Chg.of_below r).setCell (p:=⟨k,2,none⟩) (λ_=>.inl rfl) _;have B:=KI.part (x.below r) hd.an.1 (by omega) (λe=>hd.ak.1 e.symm) (λe=>hd.ak.2.1 e.symm) (λe=>hd.ak.2.2.1 e.symm) (λe=>hd.ak.2.2.2 e.symm) (λg hg=>(hd.au g hg).2.2.1) h0;have i:=KS.tree hd t;have d:=i b _ H HN.out;have A:=hf.onA i;have D:=X.onA i;have E:=K.on i;have j:=KI.strict (x.below r) (λe=>hd.ak.2.1 e.symm) h0 (.int .i64 ((c.left-1:Nat):Int));clear r h0 x
  go_enter func265,ntmps265
  go_wp2_with fail;refine(bi w 2 ln).mono ?_;rintro e u ⟨rfl,rfl⟩;go_wp2_with fail
  go_still_tail 8,(by kernel_rfl)
  change wpList _ _ _ _ _ w.drew;go_wp2_with fail;refine m.mono ?_;rintro e u ⟨rfl,rfl⟩;have G:Hid (∀o,il fs (.call s args) (bF c)=o->((bV c).bind (il fs (.call s args)))=o):=λo ho=>by rw[T.out];exact ho
  generalize w.drew.setCell ⟨k,2,none⟩ (.int .i64 ((c.left-1:Nat):Int))=w2 at t B d A D E j ⊢;have HC:=aa t;have HK:=aa B;have Q:=aa d;have HF:=aa A;have z0:w2.cell? ⟨b,0,none⟩=some (.int .i64 4):=(ae d 0).trans rfl;have z7:w2.cell? ⟨b,7,none⟩=some (.int .i64 l):=(ae d 7).trans rfl;clear t B d A i q7 p0 m;unfold ExW at N;have S:=aa (hc0 w2 n k f O mu Z mt ur (bF c) b v xs l HK.out j hd HF.out H Q.out E D N.1 N.2.1 N.2.2);clear D E j;go_wp2_with fail;refine S.mono ?_;rintro e u ⟨z,P⟩;have F:=aa (HC.then z);have W:=HC.size;cases ho:xS fs s args (bF c)with
  | none =>
   rw[ho]at P;obtain⟨c1,Y,rfl⟩:=P;have R:=aa ho;clear ho z;go_wp2_with fail;exact⟨rfl,cm.gave (G.out _ (by exact R.out)) F.out c1 Y⟩
  | some q =>
   rw[ho]at P;have R:=aa ho;clear ho;obtain⟨p,q⟩:=q;obtain⟨L,a0,J,I,M⟩:=P;have V:e=.returned (.bool p):=L;subst V;have U:=aa (show∃ur',KI u n k f O mu Z mt fs bs nm U0 ur' q/\KD n k f O mu Z mt ur' lo/\(ur'=ur\/∀g,ur'=some g->w.heap.size<=g) from⟨a0,J,I,M.imp id λh g hg=>ay W (h g hg)⟩);clear L J I M z;go_wp2_with fail;go_ret;exact cm.ret (p:=p) (c':=q) (G.out _ R.out) F.out rfl U.out
theorem K2 (fs:List Fun) (bs:List Nat) (nm:Tx) (U0:Tx->Option Value) (lo:Nat) (l:Ex) (hl0:ExC fs bs nm U0 lo l):ExC fs bs nm U0 lo (.new l):=by
 intro w n k f I mu V W X c b ln t hd hf ht hw;have d:=kN fs (.new l) c hw;rw[d];have v:=aa d;rw[bK]at ht;obtain⟨hb,j,lb,hn,S⟩:=ht;have P:b<lo:=hb;have hl:=hd.l;have q7:w.cell? ⟨b,7,none⟩=some (.int .i64 j):=(ae hn 7).trans rfl;have p0:w.cell? ⟨n,0,none⟩=some (pB k):=(ae t.hn 0).trans rfl;have HN:=aa hn;have a0:=aa t;clear d v hn
 by_cases h0:c.left=0
 ·have N:Hid (bV c=none):=by show bV c=none;rw[dE,ax h0]
  have A:=t.hk;rw[h0]at A;have m:=aa (jQ w.drew k I mu j A);clear A h0 t
  go_enter func265,ntmps265
  go_wp2_with fail;refine(bi w 2 ln).mono ?_;rintro e u ⟨rfl,rfl⟩;go_wp2_with fail
  go_still_tail 8,(by kernel_rfl)
  change wpList _ _ _ _ _ w.drew;go_wp2_with fail;refine m.mono ?_;rintro e u ⟨⟨c1,U,rfl⟩,rfl⟩;go_wp2_with fail;exact⟨rfl,cm.gave (by rw[N.out];rfl) (Chg.of_below (ai _ _).drew) c1 U⟩
 ·have N:Hid (bV c=some (bF c)):=by show bV c=some _;rw[dE,ap h0]
  have m:=aa (iI w.drew k c.left I mu j t.hk t.lefts h0);have a:Below w.heap.size w w.drew:=(ai _ _).drew;have r:Chg (KS k mu X) w (w.drew.setCell ⟨k,2,none⟩ (.int .i64 ((c.left-1:Nat):Int))):=(Chg.of_below a).setCell (p:=⟨k,2,none⟩) (λ_=>.inl rfl) _;have z:=KI.part (t.below a) hd.an.1 (by omega) (λe=>hd.ak.1 e.symm) (λe=>hd.ak.2.1 e.symm) (λe=>hd.ak.2.2.1 e.symm) (λe=>hd.ak.2.2.2 e.symm) (λg hg=>(hd.au g hg).2.2.1) h0;have s:=KS.tree hd r;have i:=s b _ P HN.out;have y:=hf.onA s;have B:=S.onA s;clear a h0 t
  go_enter func265,ntmps265
  go_wp2_with fail;refine(bi w 2 ln).mono ?_;rintro e u ⟨rfl,rfl⟩;go_wp2_with fail
  go_still_tail 8,(by kernel_rfl)
  change wpList _ _ _ _ _ w.drew;go_wp2_with fail;refine m.mono ?_;rintro e u ⟨rfl,rfl⟩;have D:Hid (∀o,il fs (.new l) (bF c)=o->((bV c).bind (il fs (.new l)))=o):=λo ho=>by rw[N.out];exact ho
  generalize w.drew.setCell ⟨k,2,none⟩ (.int .i64 ((c.left-1:Nat):Int))=w2 at r z i y B ⊢;have Z:=aa r;have HK:=aa z;have a1:=aa i;have HF:=aa y;have z0:w2.cell? ⟨b,0,none⟩=some (.int .i64 7):=(ae i 0).trans rfl;have z7:w2.cell? ⟨b,7,none⟩=some (.int .i64 j):=(ae i 7).trans rfl;have z4:w2.cell? ⟨b,4,none⟩=some (pB lb):=(ae i 4).trans rfl;clear r z i y s q7 p0 m;have T:ExW l:=hw;have a:Below w2.heap.size w2 w2.drew:=(ai _ _).drew;have M:=aa (ti fs bs nm U0 lo l hl0 w2.drew n k f I mu V W X (bF c) lb j false (HK.below a) hd (HF.onA (aX.below a)) (B.onA (aX.below a)) T);have K:=aa a;clear B a;go_wp2_with fail
  go_still_tail 9,(by kernel_rfl)
  change wpList _ _ _ _ _ w2.drew;go_wp2_with fail;refine M.mono ?_;rintro e u ⟨x,J⟩;have C:=aa ((Z.on K.out).then x);have R:=Z.size;cases ho:dQ fs l false (bF c)with
  | none =>
   rw[ho]at J;obtain⟨c1,U,rfl⟩:=J;have L:=aa ho;clear ho x;go_wp2_with fail;exact⟨rfl,cm.gave (D.out _ (by show(dQ fs l false (bF c)).map _=none;rw[L.out];rfl)) C.out c1 U⟩
  | some q =>
   rw[ho]at J;have L:=aa ho;clear ho;obtain⟨G,Y,F,E,H⟩:=J;have Q:e=.returned (.tuple #[]):=G;subst Q;have O:=aa (show∃ur',KI u n k f I mu V W fs bs nm U0 ur' q/\KD n k f I mu V W ur' lo/\(ur'=X\/∀g,ur'=some g->w.heap.size<=g) from⟨Y,F,E,H.imp id λh g hg=>ay R (h g hg)⟩);clear G F E H x;go_wp2_with fail;go_ret;exact cm.ret (p:=true) (c':=q) (D.out _ (by show(dQ fs l false (bF c)).map _=_;rw[L.out];rfl)) C.out rfl O.out
theorem Jl (fs:List Fun) (bs:List Nat) (nm:Tx) (U0:Tx->Option Value) (lo:Nat) (l r:Ex) (hl0:ExC fs bs nm U0 lo l) (hr:ExC fs bs nm U0 lo r):ExC fs bs nm U0 lo (.cell l r):=by
 intro w n k f O mu Z mt ur c b ln y hd hf ht P;have d:=kN fs (.cell l r) c P;rw[d];have z:=aa d;rw[bK]at ht;obtain⟨hb,a,lb,rb,hn,W,X⟩:=ht;have A:b<lo:=hb;have hl:=hd.l;have q7:w.cell? ⟨b,7,none⟩=some (.int .i64 a):=(ae hn 7).trans rfl;have p0:w.cell? ⟨n,0,none⟩=some (pB k):=(ae y.hn 0).trans rfl;have HN:=aa hn;have a1:=aa y;clear d z hn
 by_cases h0:c.left=0
 ·have S:Hid (bV c=none):=by show bV c=none;rw[dE,ax h0]
  have E:=y.hk;rw[h0]at E;have t:=aa (jQ w.drew k O mu a E);clear E h0 y
  go_enter func265,ntmps265
  go_wp2_with fail;refine(bi w 2 ln).mono ?_;rintro e u ⟨rfl,rfl⟩;go_wp2_with fail
  go_still_tail 8,(by kernel_rfl)
  change wpList _ _ _ _ _ w.drew;go_wp2_with fail;refine t.mono ?_;rintro e u ⟨⟨c1,Y,rfl⟩,rfl⟩;go_wp2_with fail;exact⟨rfl,cm.gave (by rw[S.out];rfl) (Chg.of_below (ai _ _).drew) c1 Y⟩
 ·have S:Hid (bV c=some (bF c)):=by show bV c=some _;rw[dE,ap h0]
  have t:=aa (iI w.drew k c.left O mu a y.hk y.lefts h0);have B:Below w.heap.size w w.drew:=(ai _ _).drew;have x:Chg (KS k mu ur) w (w.drew.setCell ⟨k,2,none⟩ (.int .i64 ((c.left-1:Nat):Int))):=(Chg.of_below B).setCell (p:=⟨k,2,none⟩) (λ_=>.inl rfl) _;have D:=KI.part (y.below B) hd.an.1 (by omega) (λe=>hd.ak.1 e.symm) (λe=>hd.ak.2.1 e.symm) (λe=>hd.ak.2.2.1 e.symm) (λe=>hd.ak.2.2.2 e.symm) (λg hg=>(hd.au g hg).2.2.1) h0;have j:=KS.tree hd x;have i:=j b _ A HN.out;have C:=hf.onA j;have G:=W.onA j;have H:=X.onA j;clear B h0 y
  go_enter func265,ntmps265
  go_wp2_with fail;refine(bi w 2 ln).mono ?_;rintro e u ⟨rfl,rfl⟩;go_wp2_with fail
  go_still_tail 8,(by kernel_rfl)
  change wpList _ _ _ _ _ w.drew;go_wp2_with fail;refine t.mono ?_;rintro e u ⟨rfl,rfl⟩;have s:Hid (∀o,il fs (.cell l r) (bF c)=o->((bV c).bind (il fs (.cell l r)))=o):=λo ho=>by rw[S.out];exact ho
  generalize w.drew.setCell ⟨k,2,none⟩ (.int .i64 ((c.left-1:Nat):Int))=w2 at x D i C G H ⊢;have HC:=aa x;have HK:=aa D;have I:=aa i;have HF:=aa C;have z0:w2.cell? ⟨b,0,none⟩=some (.int .i64 5):=(ae i 0).trans rfl;have z7:w2.cell? ⟨b,7,none⟩=some (.int .i64 a):=(ae i 7).trans rfl;clear x D i C j q7 p0 t;unfold ExW at P;have R:=aa (tI fs bs nm U0 lo l r hl0 hr w2 n k f O mu Z mt ur (bF c) b lb rb 5 0 [] [] _ a HK.out hd HF.out A I.out G H P.1 P.2);clear G H;go_wp2_with fail;refine R.mono ?_;rintro e u ⟨v,Q⟩;have m:=aa (HC.then v);have V:=HC.size;cases ho:gD fs l r (bF c)with
  | none =>
   rw[ho]at Q;obtain⟨c1,Y,rfl⟩:=Q;have J:=aa ho;clear ho v;go_wp2_with fail;exact⟨rfl,cm.gave (s.out _ (by show(gD fs l r (bF c)).bind _=none;rw[J.out];rfl)) m.out c1 Y⟩
  | some q =>
   rw[ho]at Q;have J:=aa ho;clear ho;obtain⟨⟨pa,pb⟩,q⟩:=q;obtain⟨M,a0,L,K,N⟩:=Q;have U:e=.returned (.tuple #[.bool pa,.bool pb]):=M;subst U;have T:=aa (show∃ur',KI u n k f O mu Z mt fs bs nm U0 ur' q/\KD n k f O mu Z mt ur' lo/\(ur'=ur\/∀g,ur'=some g->w.heap.size<=g) from⟨a0,L,K,N.imp id λh g hg=>ay V (h g hg)⟩);have F:=KS.tree hd v b _ A I.out;have y0:u.cell? ⟨b,0,none⟩=some (.int .i64 5):=(ae F 0).trans rfl;have y7:u.cell? ⟨b,7,none⟩=some (.int .i64 a):=(ae F 7).trans rfl;clear M L K N v F;cases pa with
   | false =>
    go_wp2_with fail;refine(eY u 10 a).mono ?_;rintro e z' ⟨rfl,rfl⟩;go_wp2_with fail;exact⟨rfl,cm.gave (s.out _ (by show(gD fs l r (bF c)).bind _=none;rw[J.out];rfl)) m.out _ _⟩
   | true =>
    cases pb with
    | true =>
     go_wp2_with fail;refine(eY u 10 a).mono ?_;rintro e z' ⟨rfl,rfl⟩;go_wp2_with fail;exact⟨rfl,cm.gave (s.out _ (by show(gD fs l r (bF c)).bind _=none;rw[J.out];rfl)) m.out _ _⟩
    | false =>
     go_wp2_with fail;refine(bi u 10 a).mono ?_;rintro e z' ⟨rfl,rfl⟩;go_wp2_with fail;go_ret;exact cm.ret (p:=false) (c':=q) (s.out _ (by show(gD fs l r (bF c)).bind _=_;rw[J.out];rfl)) m.out rfl T.out
theorem Jk (fs:List Fun) (bs:List Nat) (nm:Tx) (U0:Tx->Option Value) (lo:Nat) (l r:Ex) (hl0:ExC fs bs nm U0 lo l) (hr:ExC fs bs nm U0 lo r):ExC fs bs nm U0 lo (.link l r):=by
 intro w n k f O mu Z mt ur c b ln y hd hf ht P;have d:=kN fs (.link l r) c P;rw[d];have z:=aa d;rw[bK]at ht;obtain⟨hb,a,lb,rb,hn,W,X⟩:=ht;have A:b<lo:=hb;have hl:=hd.l;have q7:w.cell? ⟨b,7,none⟩=some (.int .i64 a):=(ae hn 7).trans rfl;have p0:w.cell? ⟨n,0,none⟩=some (pB k):=(ae y.hn 0).trans rfl;have HN:=aa hn;have a1:=aa y;clear d z hn
 by_cases h0:c.left=0
 ·have S:Hid (bV c=none):=by show bV c=none;rw[dE,ax h0]
  have E:=y.hk;rw[h0]at E;have t:=aa (jQ w.drew k O mu a E);clear E h0 y
  go_enter func265,ntmps265
  go_wp2_with fail;refine(bi w 2 ln).mono ?_;rintro e u ⟨rfl,rfl⟩;go_wp2_with fail
  go_still_tail 8,(by kernel_rfl)
  change wpList _ _ _ _ _ w.drew;go_wp2_with fail;refine t.mono ?_;rintro e u ⟨⟨c1,Y,rfl⟩,rfl⟩;go_wp2_with fail;exact⟨rfl,cm.gave (by rw[S.out];rfl) (Chg.of_below (ai _ _).drew) c1 Y⟩
 ·have S:Hid (bV c=some (bF c)):=by show bV c=some _;rw[dE,ap h0]
  have t:=aa (iI w.drew k c.left O mu a y.hk y.lefts h0);have B:Below w.heap.size w w.drew:=(ai _ _).drew;have x:Chg (KS k mu ur) w (w.drew.setCell ⟨k,2,none⟩ (.int .i64 ((c.left-1:Nat):Int))):=(Chg.of_below B).setCell (p:=⟨k,2,none⟩) (λ_=>.inl rfl) _;have D:=KI.part (y.below B) hd.an.1 (by omega) (λe=>hd.ak.1 e.symm) (λe=>hd.ak.2.1 e.symm) (λe=>hd.ak.2.2.1 e.symm) (λe=>hd.ak.2.2.2 e.symm) (λg hg=>(hd.au g hg).2.2.1) h0;have j:=KS.tree hd x;have i:=j b _ A HN.out;have C:=hf.onA j;have G:=W.onA j;have H:=X.onA j;clear B h0 y
  go_enter func265,ntmps265
  go_wp2_with fail;refine(bi w 2 ln).mono ?_;rintro e u ⟨rfl,rfl⟩;go_wp2_with fail
  go_still_tail 8,(by kernel_rfl)
  change wpList _ _ _ _ _ w.drew;go_wp2_with fail;refine t.mono ?_;rintro e u ⟨rfl,rfl⟩;have s:Hid (∀o,il fs (.link l r) (bF c)=o->((bV c).bind (il fs (.link l r)))=o):=λo ho=>by rw[S.out];exact ho
  generalize w.drew.setCell ⟨k,2,none⟩ (.int .i64 ((c.left-1:Nat):Int))=w2 at x D i C G H ⊢;have HC:=aa x;have HK:=aa D;have I:=aa i;have HF:=aa C;have z0:w2.cell? ⟨b,0,none⟩=some (.int .i64 6):=(ae i 0).trans rfl;have z7:w2.cell? ⟨b,7,none⟩=some (.int .i64 a):=(ae i 7).trans rfl;clear x D i C j q7 p0 t;unfold ExW at P;have R:=aa (tI fs bs nm U0 lo l r hl0 hr w2 n k f O mu Z mt ur (bF c) b lb rb 6 0 [] [] _ a HK.out hd HF.out A I.out G H P.1 P.2);clear G H;go_wp2_with fail;refine R.mono ?_;rintro e u ⟨v,Q⟩;have m:=aa (HC.then v);have V:=HC.size;cases ho:gD fs l r (bF c)with
  | none =>
   rw[ho]at Q;obtain⟨c1,Y,rfl⟩:=Q;have J:=aa ho;clear ho v;go_wp2_with fail;exact⟨rfl,cm.gave (s.out _ (by show(gD fs l r (bF c)).bind _=none;rw[J.out];rfl)) m.out c1 Y⟩
  | some q =>
   rw[ho]at Q;have J:=aa ho;clear ho;obtain⟨⟨pa,pb⟩,q⟩:=q;obtain⟨M,a0,L,K,N⟩:=Q;have U:e=.returned (.tuple #[.bool pa,.bool pb]):=M;subst U;have T:=aa (show∃ur',KI u n k f O mu Z mt fs bs nm U0 ur' q/\KD n k f O mu Z mt ur' lo/\(ur'=ur\/∀g,ur'=some g->w.heap.size<=g) from⟨a0,L,K,N.imp id λh g hg=>ay V (h g hg)⟩);have F:=KS.tree hd v b _ A I.out;have y0:u.cell? ⟨b,0,none⟩=some (.int .i64 6):=(ae F 0).trans rfl;have y7:u.cell? ⟨b,7,none⟩=some (.int .i64 a):=(ae F 7).trans rfl;clear M L K N v F;cases pa with
   | false =>
    go_wp2_with fail;refine(eY u 10 a).mono ?_;rintro e z' ⟨rfl,rfl⟩;go_wp2_with fail;exact⟨rfl,cm.gave (s.out _ (by show(gD fs l r (bF c)).bind _=none;rw[J.out];rfl)) m.out _ _⟩
   | true =>
    cases pb with
    | true =>
     go_wp2_with fail;refine(eY u 10 a).mono ?_;rintro e z' ⟨rfl,rfl⟩;go_wp2_with fail;exact⟨rfl,cm.gave (s.out _ (by show(gD fs l r (bF c)).bind _=none;rw[J.out];rfl)) m.out _ _⟩
    | false =>
     go_wp2_with fail;refine(bi u 10 a).mono ?_;rintro e z' ⟨rfl,rfl⟩;go_wp2_with fail;go_ret;exact cm.ret (p:=true) (c':=q) (s.out _ (by show(gD fs l r (bF c)).bind _=_;rw[J.out];rfl)) m.out rfl T.out
theorem jy (f:Fun) (fs:List Fun) (b:Nat) (bs:List Nat) (t:Tx):fQ (f::fs) (b::bs) t=if f.name=t then some b else fQ fs bs t:=by
 unfold fQ;rw[List.findIdx?_cons]
 by_cases h:f.name=t
 ·simp[h]
 ·simp only[h,decide_false,gy]
  cases fs.findIdx? (λf=>decide (f.name=t))<;>simp
theorem De {w:World} {A:Nat->Prop}:∀{bs:List Nat} {fs:List Fun} (t:Tx),dV w A bs fs ->
  (∃g gb,km fs t=some g/\fQ fs bs t=some gb/\ji w A gb g)\/(km fs t=none/\fQ fs bs t=none)
 | [],[],t,_=>.inr ⟨rfl,rfl⟩
 | b::bs,f::fs,t,h=>by
  rw[jy];unfold km;rw[List.find?_cons]
  by_cases hn:f.name=t
  ·rw[ax hn]
   simp only[hn,decide_true];exact .inl ⟨f,b,rfl,rfl,h.1⟩
  ·rw[ap hn]
   simp only[hn,decide_false];exact De t h.2
 | [],_::_,t,h=>h.elim
 | _::_,[],t,h=>h.elim
theorem Tryz.info9:(Tryz.prog.info? 9).map (λi=>(i.zero,i.size,i.bytes))=some (some (.string ⟨#[]⟩),1,16):=by kernel_rfl
theorem KI.use {lo:Nat} (h:KI w n k f mf mu md mt fs bs nm U0 ur c) (hd:KD n k f mf mu md mt ur lo) (s:Tx) (hst:tN w mu c) (m1:bz w mu L sz) (m3:∀t,t≠nm->L t=U0 t)
 (m4:w.ownsRow 0 9 1 ((L nm).getD (.slice none 0 0)) c.uses.length (txs c.uses)) (m5:((L nm).getD (.slice none 0 0)).ownBlock=ur) {gg cap:Nat} {w1:World} (hg:(w.drew.alloc (.cells #[.string ⟨s.toArray⟩] 9)).grownBy w1 ((L nm).getD (.slice none 0 0)).ownBlock)
 (hown:w1.ownsRow 0 9 1 (.slice (some ⟨gg,0,none⟩) (c.uses.length+1) cap) (c.uses.length+1) (txs c.uses++[.string ⟨s.toArray⟩])) (hat:ur=some gg\/gg=w.heap.size+1) (hlo:lo<=w.heap.size):
  ∃w2,(Instr.mapUpdate 279 (mP mu) (.string ⟨nm.toArray⟩) (.slice (some ⟨gg,0,none⟩) (c.uses.length+1) cap)).run prog w1=.ok () w2/\Chg (KS k mu ur) w w1/\Chg (KS k mu ur) w w2 /\
   ∃ur',KI w2 n k f mf mu md mt fs bs nm U0 ur' { c with uses:=c.uses++[s] }/\KD n k f mf mu md mt ur' lo/\(ur'=ur\/∀g,ur'=some g->w.heap.size<=g):=by
 have m:Chg (KS k mu ur) w w1:=(((Chg.of_below (ai _ _).drew).alloc _).grown hg λi hi _=>.inr (.inr (by rw[<- m5];exact hi)));obtain⟨⟨S,W,B,C⟩,ml⟩:=hst;have m2:sz+c.left+1<=1000000:=by rw[m1.size_eq B];exact C
 have P:lo<=k/\k<w.heap.size:=⟨hd.l.2.1,ab h.hk⟩;have A:=m1.lt;have H:∀i,i<w.heap.size->KS k mu ur i->i=k\/i=mu\/ur=some i:=λi _ h=>h;have v:bz w1 mu L sz:=by
  obtain⟨D,⟨K,l,N,F,Q,M⟩,r⟩:=m1;refine⟨D,⟨K,l,?_,F,Q,M⟩,r⟩;rw[hg.block mu (by rw[ah];have:w.drew.heap.size=w.heap.size:=rfl;omega) (λe=>(hd.au mu (by rw[<- m5];exact e.symm)).2.2.2.2.1 rfl),aK _ _ _ (by exact A)];exact N
 obtain⟨w2,y,x,j⟩:=v.put underlying279 (by unfold maxLen;omega) h.names (.slice (some ⟨gg,0,none⟩) (c.uses.length+1) cap);have o:Chg (λi=>i=mu) w1 w2:=⟨j.os,j.tape,j.output,j.size,λi hi hn=>j.block i hi (λe=>hn (by injection e))⟩;have d:Chg (KS k mu ur) w w2:=m.trans o λi _ e=>.inr (.inl e);refine⟨w2,y,m,d,some gg,?_,?_,?_⟩
 ·have u:∀i,i<w.heap.size->¬i=mu->ur≠some i->w2.heap[i]?=w.heap[i]?:=λi hi b h2=>by
   rw[o.block i (bu hi m.size) b,hg.block i (by rw[ah];have:w.drew.heap.size=w.heap.size:=rfl;omega) (λe=>h2 (by rw[<- m5];exact e.symm)),aK _ _ _ (by exact hi)];rfl
  obtain⟨p,V,U,R,G⟩:=h.hf;obtain⟨I,E,T⟩:=h.there;obtain⟨J,z⟩:=h.funcs;have a:Chg (λi=>i=mu\/ur=some i) w w2:=⟨d.os,d.tape,d.output,d.size,λi hi hn=>u i hi (λe=>hn (.inl e)) (λe=>hn (.inr e))⟩;have O:=hd.l;have ne:∀i,(∀g,ur=some g->¬g=i)->¬i=mu->¬(i=mu\/ur=some i):=λi b h2 h3=>h3.elim h2 λe=>b i e rfl;refine⟨by rw[a.block n (ab h.hn) (ne n (λg hg=>(hd.au g hg).2.1) hd.an.2.2.1)];exact h.hn,by rw[a.block k (ab h.hk) (ne k (λg hg=>(hd.au g hg).2.2.1) hd.ak.2.1)];exact h.hk,
   ⟨p,V,U,R,by rw[a.block f (ab G) (ne f (λg hg e=>by have:=(hd.au g hg).1;omega) (by omega))];exact G⟩,h.decl.chg a (ne md (λg hg=>(hd.au g hg).2.2.2.2.2.1) (λe=>hd.am.2.2.2.1 e.symm)),⟨I,E.chg a (ne mt (λg hg=>(hd.au g hg).2.2.2.2.2.2) (λe=>hd.am.2.2.2.2.1 e.symm)),T⟩,⟨J,z.chg a (ne mf (λg hg=>(hd.au g hg).2.2.2.1) hd.am.1)⟩,?_,h.lefts,by show(c.uses++[s]).length+c.left<=_;rw[ac];simp;omega,h.decll,h.names⟩
  refine⟨_,_,x,?_,λt ht=>?_,?_,?_⟩
  ·show(if(L nm).isSome then sz else sz+1)+c.left<=_;split<;>omega
  ·unfold upd;rw[ap ht];exact m3 t ht
  ·unfold upd
   rw[ax rfl];show w2.ownsRow 0 9 1 (.slice (some ⟨gg,0,none⟩) (c.uses.length+1) cap) (c.uses++[s]).length (txs (c.uses++[s]));rw[ac,show txs (c.uses++[s])=txs c.uses++[.string ⟨s.toArray⟩] by simp[txs]];refine aY hown o λg hg e=>?_;have q:gg=g:=by injection hg
   subst q;subst e;rcases hat with b|b
   ·exact(hd.au _ b).2.2.2.2.1 rfl
   ·omega
  ·unfold upd;rw[ax rfl];rfl
 ·refine⟨hd.l,hd.an,hd.ak,hd.am,λg hg=>?_⟩
  have q:gg=g:=by injection hg
  subst q;rcases hat with b|b
  ·exact hd.au _ b
  ·have X:=ab h.hn
   have Y:=h.decl.lt;obtain⟨I,E,_⟩:=h.there;obtain⟨J,z⟩:=h.funcs;have l4:=E.lt;have Z:=z.lt;exact⟨by omega,by omega,by omega,by omega,by omega,by omega,by omega⟩
 ·rcases hat with b|b
  ·exact .inl b.symm
  ·exact .inr λg hg=>by injection hg with e;omega
end Go.Proofs.YtbeaaimcpkogcaaGreatDoor
