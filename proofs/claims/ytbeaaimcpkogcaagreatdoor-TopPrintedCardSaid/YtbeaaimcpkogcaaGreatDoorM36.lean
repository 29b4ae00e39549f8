/- Lemmas on the way to the claim. -/
import Derived.Test.YtbeaaimcpkogcaaGreatDoorM05
import Derived.Test.YtbeaaimcpkogcaaGreatDoorM30
set_option linter.unusedSimpArgs false
set_option linter.unusedVariables false
set_option maxHeartbeats 16000000
set_option maxRecDepth 100000
namespace Go.Proofs.YtbeaaimcpkogcaaGreatDoor
open Go.Proofs.Tryz Go.RowKit
variable {o:Option CS} {e:Ending} {u w w':World} {b f k md mt mu n t:Nat} {ur:Option Nat} {x:Operand} {nm s:Tx} {q v:Value} {ops:Array Oper} {P:Program} {a:Act}
structure SRel (n k f mf mu md mt:Nat) (fs:List Fun) (bs:List Nat) (nm:Tx) (U0:Tx->Option Value) (ur:Option Nat) (lo:Nat) (fp:Bool) (w0 w:World) (c:CS):Prop where
 chg:Chg (SS n k mu md mt ur) w0 w
 st:∃ur' mt',KI w n k f mf mu md mt' fs bs nm U0 ur' c/\KD n k f mf mu md mt' ur' lo/\(ur'=ur\/∀g,ur'=some g->w0.heap.size<=g)/\(mt'=mt\/w0.heap.size<=mt')
 kd:KD n k f mf mu md mt ur lo
 env:Env w0 lo bs fs
 fpp:FP w0 f nm fp
section
variable {n k f mf mu md mt:Nat} {fs:List Fun} {bs:List Nat} {nm:Tx} {U0:Tx->Option Value} {ur:Option Nat} {lo:Nat} {fp:Bool} {w0 w:World} {c:CS}
theorem SRel.start (hk:KI w n k f mf mu md mt fs bs nm U0 ur c) (hd:KD n k f mf mu md mt ur lo) (hf:Env w lo bs fs) (hfp:FP w f nm fp):(SRel n k f mf mu md mt fs bs nm U0 ur lo fp) w w c:=
 ⟨Chg.refl _ _,⟨ur,mt,hk,hd,.inl rfl,.inl rfl⟩,hd,hf,hfp⟩
theorem SRel.drew (h:(SRel n k f mf mu md mt fs bs nm U0 ur lo fp) w0 w c):(SRel n k f mf mu md mt fs bs nm U0 ur lo fp) w0 w.drew c:=by
 obtain⟨b,a,d,e,g,i⟩:=h.st;exact⟨h.chg.drew,⟨b,a,d.below (ai _ _).drew,e,g,i⟩,h.kd,h.env,h.fpp⟩
theorem SRel.tree (h:(SRel n k f mf mu md mt fs bs nm U0 ur lo fp) w0 w c):aX (Lt lo) w0 w:=SS.tree h.kd h.chg
theorem SRel.go {c':CS} (hr:(λ(o:Option CS)=>lV o n k f mf mu md mt fs bs nm U0 ur lo) o w0 e w') (ho:o=some c') (h:(SRel n k f mf mu md mt fs bs nm U0 ur lo fp) w0 w c):e=.returned (.tuple #[])/\(SRel n k f mf mu md mt fs bs nm U0 ur lo fp) w0 w' c':=by
 obtain⟨b,a⟩:=hr;rw[ho]at a;exact⟨a.1,b,a.2,h.kd,h.env,h.fpp⟩
theorem SRel.gave (hr:(λ(o:Option CS)=>lV o n k f mf mu md mt fs bs nm U0 ur lo) o w0 e w') (ho:o=none):∃c1 l1,e=lN c1 l1/\∀o',o'=none->(λ(o:Option CS)=>lV o n k f mf mu md mt fs bs nm U0 ur lo) o' w0 e w':=by
 obtain⟨b,a⟩:=hr;rw[ho]at a;obtain⟨c1,l1,rfl⟩:=a;exact⟨c1,l1,rfl,λo' ho'=>⟨b,by rw[ho'];exact⟨c1,l1,rfl⟩⟩⟩
theorem SRel.ended (h:(SRel n k f mf mu md mt fs bs nm U0 ur lo fp) w0 w c) (ho:o=some c):(λ(o:Option CS)=>lV o n k f mf mu md mt fs bs nm U0 ur lo) o w0 (.returned (.tuple #[])) w:=
 ⟨h.chg,by rw[ho];exact⟨rfl,h.st⟩⟩
theorem SRel.gives (h:(SRel n k f mf mu md mt fs bs nm U0 ur lo fp) w0 w c) (ho:o=none) (c1 l1:Int):(λ(o:Option CS)=>lV o n k f mf mu md mt fs bs nm U0 ur lo) o w0 (lN c1 l1) w:=
 ⟨h.chg,by rw[ho];exact⟨c1,l1,rfl⟩⟩
theorem SRel.next (h:(SRel n k f mf mu md mt fs bs nm U0 ur lo fp) w0 w c) (hq:∀ur' mt',KI w n k f mf mu md mt' fs bs nm U0 ur' c->KD n k f mf mu md mt' ur' lo->lV o n k f mf mu md mt' fs bs nm U0 ur' lo w e w'):(λ(o:Option CS)=>lV o n k f mf mu md mt fs bs nm U0 ur lo) o w0 e w':=by
 obtain⟨ur',mt',q,r,l,m⟩:=h.st;obtain⟨s,p⟩:=hq ur' mt' q r;have a:=h.chg.size;refine⟨SS.then h.chg s l m,?_⟩;cases o with
 | none=>exact p
 | some c' =>
  obtain⟨t,j,b,u,v,d,i⟩:=p;refine⟨t,j,b,u,v,?_,?_⟩
  ·rcases d with rfl|d
   ·exact l
   ·exact .inr λg hg=>ay a (d g hg)
  ·rcases i with rfl|i
   ·exact m
   ·exact .inr (ay a i)
theorem SRel.envW (h:(SRel n k f mf mu md mt fs bs nm U0 ur lo fp) w0 w c):Env w lo bs fs:=h.env.onA h.tree
theorem SRel.fpW (h:(SRel n k f mf mu md mt fs bs nm U0 ur lo fp) w0 w c):FP w f nm fp:=by
 obtain⟨e,d,b,a⟩:=h.fpp;exact⟨e,d,b,h.tree f _ h.kd.l.2.2.1 a⟩
theorem SRel.hn (h:(SRel n k f mf mu md mt fs bs nm U0 ur lo fp) w0 w c):∃mt',w.heap[n]?=some (.cells #[pB k,pB f,mP md,mP mt'] 320 (0,0)):=by
 obtain⟨b,mt',a,_⟩:=h.st;exact⟨mt',a.hn⟩
theorem KS.toSS:∀i,KS k mu ur i->SS n k mu md mt ur i:=λi hi=>by
 rcases hi with h|h|h
 ·exact .inr (.inl h)
 ·exact .inr (.inr (.inl h))
 ·exact .inr (.inr (.inr (.inr (.inr h))))
theorem SRel.part (h:(SRel n k f mf mu md mt fs bs nm U0 ur lo fp) w0 w c) (ln:Int):Calls prog 262 #[pB k,.int .i64 ln] w ((λ(o:Option CS)=>lV o n k f mf mu md mt fs bs nm U0 ur lo) (bV c) w0):=by
 obtain⟨l,j,d,a,m,q⟩:=h.st
 by_cases h0:c.left=0
 ·have b:=d.hk
  rw[h0]at b;refine(jQ w k mf mu ln b).mono ?_;rintro e u ⟨⟨c1,s,rfl⟩,rfl⟩;exact h.gives (by rw[dE,ax h0]) c1 s
 ·refine(iI w k c.left mf mu ln d.hk d.lefts h0).mono ?_
  rintro e u ⟨rfl,rfl⟩;have t:=a.l;have r:Chg (SS n k mu md mt ur) w (w.setCell ⟨k,2,none⟩ (.int .i64 ((c.left-1:Nat):Int))):=Chg.setCell (p:=⟨k,2,none⟩) (Chg.refl _ _) (λ_=>.inr (.inl rfl)) _;have i:=KI.part d a.an.1 (by omega) (λe=>a.ak.1 e.symm) (λe=>a.ak.2.1 e.symm) (λe=>a.ak.2.2.1 e.symm) (λe=>a.ak.2.2.2 e.symm) (λg hg=>(a.au g hg).2.2.1) h0;exact SRel.ended (fp:=fp) ⟨h.chg.then r,⟨l,j,i,a,m,q⟩,h.kd,h.env,h.fpp⟩ (by rw[dE,ap h0])
theorem SRel.kind (h:(SRel n k f mf mu md mt fs bs nm U0 ur lo fp) w0 w c) {x:Ex} (ht:bK w0 (Lt lo) b x) (hw:ExW x) (ln:Int) (p:Bool):Calls prog 263 #[pB n,pB b,.bool p,.int .i64 ln] w ((λ(o:Option CS)=>lV o n k f mf mu md mt fs bs nm U0 ur lo) (dQ fs x p c) w0):=by
 obtain⟨m,a,s,t,r,v⟩:=h.st;refine(ti fs bs nm U0 lo x (jA G4 fs bs nm U0 lo x) w n k f mf mu md a m c b ln p s t h.envW (ht.onA h.tree) hw).mono ?_;rintro e u ⟨y,d⟩;have j:=h.chg.size;refine⟨SS.then h.chg (y.mono λi _ hi=>KS.toSS (n:=n) (md:=md) (mt:=mt) i hi) r (.inl rfl),?_⟩;cases ho:dQ fs x p c with
 | none=>rw[ho]at d;exact d
 | some c' =>
  rw[ho]at d;obtain⟨z,q,A,B,l⟩:=d;refine⟨z,q,a,A,B,?_,v⟩;rcases l with rfl|l
  ·exact r
  ·exact .inr λg hg=>ay j (l g hg)
def MM (n k f mf mu md mt:Nat) (fs:List Fun) (bs:List Nat) (nm:Tx) (U0:Tx->Option Value) (ur:Option Nat) (lo:Nat) (fp:Bool) (w0:World) (o:Option (Bool×CS)) (e:Ending) (w':World):Prop:=
 match o with
 | none=>Eq e/\Chg (SS n k mu md mt ur) w0 w'
 | some (p,c')=>e=.returned (.bool p)/\SRel n k f mf mu md mt fs bs nm U0 ur lo fp w0 w' c'
theorem SRel.ex (h:(SRel n k f mf mu md mt fs bs nm U0 ur lo fp) w0 w c) {x:Ex} (ht:bK w0 (Lt lo) b x) (hw:ExW x) (ln:Int):Calls prog 265 #[pB n,pB b,.int .i64 ln] w (MM n k f mf mu md mt fs bs nm U0 ur lo fp w0 (gA fs x c)):=by
 obtain⟨o,d,t,v,s,y⟩:=h.st;refine(jA G4 fs bs nm U0 lo x w n k f mf mu md d o c b ln t v h.envW (ht.onA h.tree) hw).mono ?_;rintro e u ⟨z,j⟩;have l:=h.chg.size;have a:=SS.then h.chg (z.mono λi _ hi=>KS.toSS (n:=n) (md:=md) (mt:=mt) i hi) s (.inl rfl);cases ho:gA fs x c with
 | none=>rw[ho]at j;exact⟨j,a⟩
 | some r =>
  rw[ho]at j;obtain⟨p,r⟩:=r;obtain⟨A,q,B,C,m⟩:=j;refine⟨A,a,⟨q,d,B,C,?_,y⟩,h.kd,h.env,h.fpp⟩;rcases m with rfl|m
  ·exact s
  ·exact .inr λg hg=>ay l (m g hg)
theorem SRel.find (h:(SRel n k f mf mu md mt fs bs nm U0 ur lo fp) w0 w c) (hs:s.length<=4294967296) (ln:Int):Calls prog 264 #[pB n,.string ⟨s.toArray⟩,.int .i64 ln] w (λe w'=>w=w'/\match qX s c with|none=>Eq e|some p=>e=.returned (.bool p)):=by
 obtain⟨j,a,b,l,m,o⟩:=h.st;obtain⟨sz,i,_⟩:=b.there;cases ho:qX s c with
 | none =>
  refine(vm w n k f md a s ln sz _ b.hn i hs (by show(c.there.lookup s).map _=none;rw[show c.there.lookup s=none from ho];rfl)).mono ?_;rintro e u ⟨d,g⟩;exact⟨g,d⟩
 | some p =>
  refine(vl w n k f md a s ln p sz _ b.hn i hs (by show(c.there.lookup s).map _=_;rw[show c.there.lookup s=some p from ho];rfl)).mono ?_;rintro e u ⟨d,g⟩;exact⟨g,d⟩
theorem SRel.decl (h:(SRel n k f mf mu md mt fs bs nm U0 ur lo fp) w0 w c) (hs:s.length<=4294967296) (ln:Int) (p:Bool):Calls prog 222 #[pB n,.string ⟨s.toArray⟩,.bool p,.int .i64 ln] w ((λ(o:Option CS)=>lV o n k f mf mu md mt fs bs nm U0 ur lo) (lU s p c) w0):=by
 obtain⟨b,a,m,r,t,v⟩:=h.st
 by_cases hc:s∈c.decl\/200<=c.decl.length
 ·refine(AW w n k f mf mu md a fs bs nm U0 b c m s p ln hs hc).mono ?_
  rintro e u ⟨⟨c1,x,rfl⟩,rfl⟩;exact h.gives (by unfold lU;rw[ax hc]) c1 x
 ·have g:s ∉ c.decl:=λq=>hc (.inl q)
  have j:c.decl.length<200:=by
   rcases gG c.decl.length 200 with q|q
   ·exact q
   ·exact absurd (.inr q) hc
  refine(xP w n k f mf mu md a fs bs nm U0 b c lo m r s p ln hs g j).mono ?_;rintro e u ⟨rfl,y,z⟩;have l:Chg (SS n k mu md mt ur) w0 u:=by
   refine SS.then h.chg (y.mono λi _ d=>?_) t v;rcases d with d|d
   ·exact .inr (.inr (.inr (.inl d)))
   ·exact .inr (.inr (.inr (.inr (.inl d))))
  exact SRel.ended (fp:=fp) ⟨l,⟨b,a,z,r,t,v⟩,h.kd,h.env,h.fpp⟩ (by unfold lU;rw[ap hc])
theorem SRel.block (h:(SRel n k f mf mu md mt fs bs nm U0 ur lo fp) w0 w c) {l:List Sm} (hst:∀x∈l,StC fs bs nm U0 lo fp x) {xs:List Nat} (hown:li w0 (Lt lo) 195 v xs.length (xs.map pB)) (hs:cu w0 (Lt lo) xs l) (hwl:ye l) (ln:Int):Calls prog 223 #[pB n,v,.int .i64 ln] w ((λ(o:Option CS)=>lV o n k f mf mu md mt fs bs nm U0 ur lo) (gY fs fp l c) w0):=by
 obtain⟨p,d,t,y,r,s⟩:=h.st;refine(DO fs bs nm U0 lo fp l hst w n k f mf mu md d p c v xs ln t y h.envW h.fpW (hown.on h.tree) (hs.onA h.tree) hwl).mono ?_;intro e u z;have E:=h;obtain⟨A,b⟩:=z;have a:=h.chg.size;refine⟨SS.then h.chg A r s,?_⟩;cases ho:gY fs fp l c with
 | none=>rw[ho]at b;exact b
 | some c' =>
  rw[ho]at b;obtain⟨B,q,i,C,D,j,m⟩:=b;refine⟨B,q,i,C,D,?_,?_⟩
  ·rcases j with rfl|j
   ·exact r
   ·exact .inr λg hg=>ay a (j g hg)
  ·rcases m with rfl|m
   ·exact s
   ·exact .inr (ay a m)
end
def cQ (fs:List Fun) (fp:Bool):Sm->CS->Option CS
 | .var n p none,c=>lU n p c
 | .var n p (some r),c=>(dQ fs r p c).bind λc=>lU n p c
 | .set n r,c=>(qX n c).bind λp=>dQ fs r p c
 | .cell l r,c=>(gA fs l c).bind λk=>dQ fs r k.1 k.2
 | .iff r a b,c=>(dQ fs r false c).bind λc=>(gY fs fp a c).bind λc=>gY fs fp b c
 | .whl r a,c=>(dQ fs r false c).bind λc=>gY fs fp a c
 | .out r,c=>dQ fs r false c
 | .free r,c=>dQ fs r true c
 | .drain,c=>some c
 | .ret none,c=>some c
 | .ret (some r),c=>dQ fs r fp c
 | .call r,c=>(gA fs r c).bind λk=>some k.2
theorem cf (fs:List Fun) (fp:Bool) (x:Sm) (c:CS):eQ fs fp x c=(bV c).bind (cQ fs fp x):=by
 cases x with
 | var n p r=>cases r<;>(rw[eQ];rfl)
 | set n r=>rw[eQ];rfl
 | cell l r=>rw[eQ];rfl
 | iff r a b =>
  rw[eQ];cases bV c with
  | none=>rfl
  | some c1 =>
   simp only[aj,cQ];cases dQ fs r false c1 with
   | none=>rfl
   | some c2 =>
    simp only[aj,gY];cases sA fs fp a c2 with
    | none=>rfl
    | some c3=>simp only[aj]
 | whl r a=>rw[eQ];rfl
 | out r=>rw[eQ];rfl
 | free r=>rw[eQ];rfl
 | drain=>rw[eQ];cases bV c<;>rfl
 | ret r=>cases r<;>(rw[eQ];first|rfl|(cases bV c<;>rfl))
 | call r=>rw[eQ];rfl
theorem bI {k0:Int} {p:Bool} {l r t e:Value} {ln:Int} (h:w.heap[b]?=some (stC k0 nm p l r t e ln)):
  w.cell? ⟨b,0,none⟩=some (.int .i64 k0)/\w.cell? ⟨b,1,none⟩=some (.string ⟨nm.toArray⟩)/\w.cell? ⟨b,2,none⟩=some (.bool p)/\w.cell? ⟨b,3,none⟩=some l/\w.cell? ⟨b,4,none⟩=some r/\w.cell? ⟨b,5,none⟩=some t/\w.cell? ⟨b,6,none⟩=some e/\w.cell? ⟨b,7,none⟩=some (.int .i64 ln):=
 ⟨(ae h 0).trans rfl,(ae h 1).trans rfl,(ae h 2).trans rfl,(ae h 3).trans rfl,(ae h 4).trans rfl,(ae h 5).trans rfl,(ae h 6).trans rfl,(ae h 7).trans rfl⟩
theorem H9 (fs:List Fun) (bs:List Nat) (nm:Tx) (U0:Tx->Option Value) (lo:Nat) (fp:Bool) (r:Ex):StC fs bs nm U0 lo fp (.ret (some r)):=by
 intro w n k f X mu W Y ur c b U x hd F l G H;rw[ci]at G;unfold SmW at H;obtain⟨S,q,rb,hn,y⟩:=G;have Q:=aa H;have i:b<lo:=S;have z:SRel n k f X mu W Y fs bs nm U0 ur lo fp w w c:=SRel.start x hd F l;have h:=aa z;have q7:=(bI hn).2.2.2.2.2.2.2;have p0:w.cell? ⟨n,0,none⟩=some (pB k):=(ae x.hn 0).trans rfl;have E:=aa hn;have g:=aa (z.drew.part q);have v:=aa y;clear x hd F l z hn
 go_enter func252,ntmps252
 go_wp2_with fail;refine(bi w 2 U).mono ?_;rintro e u ⟨rfl,rfl⟩;go_wp2_with fail
 go_still_tail 8,(by kernel_rfl)
 change wpList _ _ _ _ _ w.drew;go_wp2_with fail;refine g.mono ?_;intro e u a;cases ho:bV c with
 | none =>
  obtain⟨c1,T,rfl,m⟩:=SRel.gave a ho;have t:=aa (m _ (show eQ fs fp (.ret (some r)) c=none by rw[cf];simp[cQ,ho]));clear ho a m;go_wp2_with fail;exact⟨rfl,t.out⟩
 | some c1 =>
  obtain⟨rfl,A⟩:=SRel.go a ho h.out;have C:=aa ho;have s:=aa A;obtain⟨I,J,K,L,M,N,O,z7⟩:=bI (A.tree b _ i E.out);clear ho a A q7 p0 g h;obtain⟨Z,p⟩:=s.hn;obtain⟨vp,vb,V,j⟩:=s.fpW;have y1:u.cell? ⟨n,1,none⟩=some (pB f):=(ae p 1).trans rfl;have y2:u.cell? ⟨f,2,none⟩=some (.bool fp):=(ae j 2).trans rfl;clear p j;have D:=aa (s.drew.kind v.out Q.out q fp);go_wp2_with fail
  go_still_tail 16,(by kernel_rfl)
  change wpList _ _ _ _ _ u.drew;go_wp2_with fail;refine D.mono ?_;intro e v2 a;cases ho:dQ fs r fp c1 with
  | none =>
   obtain⟨c1,T,rfl,m⟩:=SRel.gave a ho;have t:=aa (m _ (show eQ fs fp (.ret (some r)) c=none by rw[cf];simp[cQ,C.out,ho]));clear ho a m;go_wp2_with fail;exact⟨rfl,t.out⟩
  | some c2 =>
   obtain⟨rfl,B⟩:=SRel.go a ho s.out;have P:=aa ho;have R:=aa B;clear I J K L M N O z7;obtain⟨I,J,K,L,M,N,O,z7⟩:=bI (B.tree b _ i E.out);clear ho a B D;have d:=aa (R.ended (o:=eQ fs fp (.ret (some r)) c) (by rw[cf];simp[cQ,C.out,P.out]));go_wp2_with fail;go_end0;exact d.out
theorem Id (fs:List Fun) (bs:List Nat) (nm:Tx) (U0:Tx->Option Value) (lo:Nat) (fp:Bool) (s:Tx) (args:List Ex):StC fs bs nm U0 lo fp (.call (.call s args)):=by
 intro w n k f M mu L N R c b ln J hd V r X Z;rw[ci]at X;unfold SmW at Z;obtain⟨hb,h,rb,hn,x⟩:=X;have HW:=aa Z.2;have g:b<lo:=hb;have O:SRel n k f M mu L N fs bs nm U0 R lo fp w w c:=SRel.start J hd V r;have m:=aa O;have q7:=(bI hn).2.2.2.2.2.2.2;have p0:w.cell? ⟨n,0,none⟩=some (pB k):=(ae J.hn 0).trans rfl;have G:=aa hn;have l:=aa (O.drew.part h);have H:=aa x;clear J hd V r O hn
 go_enter func252,ntmps252
 go_wp2_with fail;refine(bi w 2 ln).mono ?_;rintro e u ⟨rfl,rfl⟩;go_wp2_with fail
 go_still_tail 8,(by kernel_rfl)
 change wpList _ _ _ _ _ w.drew;go_wp2_with fail;refine l.mono ?_;intro e u a;cases ho:bV c with
 | none =>
  obtain⟨c1,K,rfl,W⟩:=SRel.gave a ho;have F:=aa (W _ (show eQ fs fp (.call (.call s args)) c=none by rw[cf];simp[cQ,ho]));clear ho a W;go_wp2_with fail;exact⟨rfl,F.out⟩
 | some c1 =>
  obtain⟨rfl,P⟩:=SRel.go a ho m.out;have S:=aa ho;have U:=aa P;obtain⟨y,z,A,B,C,D,E,z7⟩:=bI (P.tree b _ g G.out);clear ho a P q7 p0 l m;have t:=x.onA U.tree;rw[bK]at t;obtain⟨a0,lr,vr,xr,d,_⟩:=t;have r0:u.cell? ⟨rb,0,none⟩=some (.int .i64 4):=(ae d 0).trans rfl;clear d;go_wp2_with fail
  go_still_tail 19,(by kernel_rfl)
  change wpList _ _ _ _ _ u.drew;go_wp2_with fail;refine(bi u.drew 10 h).mono ?_;rintro e v ⟨rfl,Y⟩;have i:SRel n k f M mu L N fs bs nm U0 R lo fp w v c1:=Y▸U.drew;have I:=aa i;clear y z A B C D E z7 r0;obtain⟨y,z,A,B,C,D,E,z7⟩:=bI (i.tree b _ g G.out);clear Y i;have T:=aa (I.drew.ex H.out HW.out h);go_wp2_with fail
  go_still_tail 9,(by kernel_rfl)
  change wpList _ _ _ _ _ v.drew;go_wp2_with fail;refine T.mono ?_;intro e v2 a;cases ho:gA fs (.call s args) c1 with
  | none =>
   rw[ho]at a;obtain⟨⟨k1,K,rfl⟩,p⟩:=a;have F:=aa (show lV (eQ fs fp (.call (.call s args)) c) n k f M mu L N fs bs nm U0 R lo w (lN k1 K) v2 from⟨p,by rw[show eQ fs fp (.call (.call s args)) c=none by rw[cf];simp[cQ,S.out,ho]];exact⟨k1,K,rfl⟩⟩);clear ho p;go_wp2_with fail;exact⟨rfl,F.out⟩
  | some q =>
   obtain⟨pq,c2⟩:=q;rw[ho]at a;obtain⟨rfl,Q⟩:=a;have E2:=aa ho;have S2:=aa Q;clear y z A B C D E z7;obtain⟨y,z,A,B,C,D,E,z7⟩:=bI (Q.tree b _ g G.out);clear ho Q T;have j:=aa (S2.ended (o:=eQ fs fp (.call (.call s args)) c) (by rw[cf];simp[cQ,S.out,E2.out]));go_wp2_with fail;go_end0;exact j.out
theorem J3 (fs:List Fun) (bs:List Nat) (nm:Tx) (U0:Tx->Option Value) (lo:Nat) (fp:Bool) (r:Ex):StC fs bs nm U0 lo fp (.out r):=by
 intro w n k f U mu T V Y c b S s hd D j E F;rw[ci]at E;unfold SmW at F;obtain⟨Q,m,Z,hn,t⟩:=E;have O:=aa F;have i:b<lo:=Q;have v:SRel n k f U mu T V fs bs nm U0 Y lo fp w w c:=SRel.start s hd D j;have h:=aa v;have X:=(bI hn).2.2.2.2.2.2.2;have W:w.cell? ⟨n,0,none⟩=some (pB k):=(ae s.hn 0).trans rfl;have B:=aa hn;have g:=aa (v.drew.part m);have q:=aa t;clear s hd D j v hn
 go_enter func252,ntmps252
 go_wp2_with fail;refine(bi w 2 S).mono ?_;rintro e u ⟨rfl,rfl⟩;go_wp2_with fail
 go_still_tail 8,(by kernel_rfl)
 change wpList _ _ _ _ _ w.drew;go_wp2_with fail;refine g.mono ?_;intro e u a;cases ho:bV c with
 | none =>
  obtain⟨c1,R,rfl,l⟩:=SRel.gave a ho;have p:=aa (l _ (show eQ fs fp (.out r) c=none by rw[cf];simp[cQ,ho]));clear ho a l;go_wp2_with fail;exact⟨rfl,p.out⟩
 | some c1 =>
  obtain⟨rfl,x⟩:=SRel.go a ho h.out;have z:=aa ho;have C:=aa x;obtain⟨G,H,I,J,K,L,M,z7⟩:=bI (x.tree b _ i B.out);clear ho a x X W g h;have A:=aa (C.drew.kind q.out O.out m false);go_wp2_with fail
  go_still_tail 14,(by kernel_rfl)
  change wpList _ _ _ _ _ u.drew;go_wp2_with fail;refine A.mono ?_;intro e v2 a;cases ho:dQ fs r false c1 with
  | none =>
   obtain⟨c1,R,rfl,l⟩:=SRel.gave a ho;have p:=aa (l _ (show eQ fs fp (.out r) c=none by rw[cf];simp[cQ,z.out,ho]));clear ho a l;go_wp2_with fail;exact⟨rfl,p.out⟩
  | some c2 =>
   obtain⟨rfl,y⟩:=SRel.go a ho C.out;have N:=aa ho;have P:=aa y;clear G H I J K L M z7;obtain⟨G,H,I,J,K,L,M,z7⟩:=bI (y.tree b _ i B.out);clear ho a y A;have d:=aa (P.ended (o:=eQ fs fp (.out r) c) (by rw[cf];simp[cQ,z.out,N.out]));go_wp2_with fail;go_end0;exact d.out
theorem Ib (fs:List Fun) (bs:List Nat) (nm:Tx) (U0:Tx->Option Value) (lo:Nat) (fp:Bool) (r:Ex):StC fs bs nm U0 lo fp (.free r):=by
 intro w n k f U mu T V Y c b S s hd D j E F;rw[ci]at E;unfold SmW at F;obtain⟨Q,m,Z,hn,t⟩:=E;have O:=aa F;have i:b<lo:=Q;have v:SRel n k f U mu T V fs bs nm U0 Y lo fp w w c:=SRel.start s hd D j;have h:=aa v;have X:=(bI hn).2.2.2.2.2.2.2;have W:w.cell? ⟨n,0,none⟩=some (pB k):=(ae s.hn 0).trans rfl;have B:=aa hn;have g:=aa (v.drew.part m);have q:=aa t;clear s hd D j v hn
 go_enter func252,ntmps252
 go_wp2_with fail;refine(bi w 2 S).mono ?_;rintro e u ⟨rfl,rfl⟩;go_wp2_with fail
 go_still_tail 8,(by kernel_rfl)
 change wpList _ _ _ _ _ w.drew;go_wp2_with fail;refine g.mono ?_;intro e u a;cases ho:bV c with
 | none =>
  obtain⟨c1,R,rfl,l⟩:=SRel.gave a ho;have p:=aa (l _ (show eQ fs fp (.free r) c=none by rw[cf];simp[cQ,ho]));clear ho a l;go_wp2_with fail;exact⟨rfl,p.out⟩
 | some c1 =>
  obtain⟨rfl,x⟩:=SRel.go a ho h.out;have z:=aa ho;have C:=aa x;obtain⟨G,H,I,J,K,L,M,z7⟩:=bI (x.tree b _ i B.out);clear ho a x X W g h;have A:=aa (C.drew.kind q.out O.out m true);go_wp2_with fail
  go_still_tail 14,(by kernel_rfl)
  change wpList _ _ _ _ _ u.drew;go_wp2_with fail;refine A.mono ?_;intro e v2 a;cases ho:dQ fs r true c1 with
  | none =>
   obtain⟨c1,R,rfl,l⟩:=SRel.gave a ho;have p:=aa (l _ (show eQ fs fp (.free r) c=none by rw[cf];simp[cQ,z.out,ho]));clear ho a l;go_wp2_with fail;exact⟨rfl,p.out⟩
  | some c2 =>
   obtain⟨rfl,y⟩:=SRel.go a ho C.out;have N:=aa ho;have P:=aa y;clear G H I J K L M z7;obtain⟨G,H,I,J,K,L,M,z7⟩:=bI (y.tree b _ i B.out);clear ho a y A;have d:=aa (P.ended (o:=eQ fs fp (.free r) c) (by rw[cf];simp[cQ,z.out,N.out]));go_wp2_with fail;go_end0;exact d.out
theorem EJ (fs:List Fun) (bs:List Nat) (nm:Tx) (U0:Tx->Option Value) (lo:Nat) (fp:Bool):StC fs bs nm U0 lo fp .drain:=by
 intro w n k f E mu D F I c b C l hd r h t B;rw[ci]at t;unfold SmW at B;obtain⟨A,m,hn⟩:=t;have j:b<lo:=A;have p:SRel n k f E mu D F fs bs nm U0 I lo fp w w c:=SRel.start l hd r h;have g:=aa p;have H:=(bI hn).2.2.2.2.2.2.2;have G:w.cell? ⟨n,0,none⟩=some (pB k):=(ae l.hn 0).trans rfl;have y:=aa hn;have d:=aa (p.drew.part m);clear l hd r h p hn
 go_enter func252,ntmps252
 go_wp2_with fail;refine(bi w 2 C).mono ?_;rintro e u ⟨rfl,rfl⟩;go_wp2_with fail
 go_still_tail 8,(by kernel_rfl)
 change wpList _ _ _ _ _ w.drew;go_wp2_with fail;refine d.mono ?_;intro e u i;cases ho:bV c with
 | none =>
  obtain⟨c1,J,rfl,s⟩:=SRel.gave i ho;have x:=aa (s _ (show eQ fs fp .drain c=none by rw[cf];simp[cQ,ho]));clear ho i s;go_wp2_with fail;exact⟨rfl,x.out⟩
 | some c1 =>
  obtain⟨rfl,q⟩:=SRel.go i ho g.out;have v:=aa ho;have z:=aa q;obtain⟨K,L,M,N,O,P,Q,z7⟩:=bI (q.tree b _ j y.out);clear ho i q H G d g;have a:=aa (z.ended (o:=eQ fs fp .drain c) (by rw[cf];simp[cQ,v.out]));go_wp2_with fail;go_end0;exact a.out
theorem Ia (fs:List Fun) (bs:List Nat) (nm:Tx) (U0:Tx->Option Value) (lo:Nat) (fp:Bool):StC fs bs nm U0 lo fp (.ret none):=by
 intro w n k f E mu D F I c b C l hd r h t B;rw[ci]at t;unfold SmW at B;obtain⟨A,m,hn⟩:=t;have j:b<lo:=A;have p:SRel n k f E mu D F fs bs nm U0 I lo fp w w c:=SRel.start l hd r h;have g:=aa p;have H:=(bI hn).2.2.2.2.2.2.2;have G:w.cell? ⟨n,0,none⟩=some (pB k):=(ae l.hn 0).trans rfl;have y:=aa hn;have d:=aa (p.drew.part m);clear l hd r h p hn
 go_enter func252,ntmps252
 go_wp2_with fail;refine(bi w 2 C).mono ?_;rintro e u ⟨rfl,rfl⟩;go_wp2_with fail
 go_still_tail 8,(by kernel_rfl)
 change wpList _ _ _ _ _ w.drew;go_wp2_with fail;refine d.mono ?_;intro e u i;cases ho:bV c with
 | none =>
  obtain⟨c1,J,rfl,s⟩:=SRel.gave i ho;have x:=aa (s _ (show eQ fs fp (.ret none) c=none by rw[cf];simp[cQ,ho]));clear ho i s;go_wp2_with fail;exact⟨rfl,x.out⟩
 | some c1 =>
  obtain⟨rfl,q⟩:=SRel.go i ho g.out;have v:=aa ho;have z:=aa q;obtain⟨K,L,M,N,O,P,Q,z7⟩:=bI (q.tree b _ j y.out);clear ho i q H G d g;have a:=aa (z.ended (o:=eQ fs fp (.ret none) c) (by rw[cf];simp[cQ,v.out]));go_wp2_with fail;go_end0;exact a.out
theorem Hz (fs:List Fun) (bs:List Nat) (nm:Tx) (U0:Tx->Option Value) (lo:Nat) (fp:Bool) (s:Tx) (p:Bool):StC fs bs nm U0 lo fp (.var s p none):=by
 intro w n k f T mu S U X c b R r hd C j D E;rw[ci]at D;unfold SmW at E;obtain⟨P,m,hn⟩:=D;have N:=aa E;have i:b<lo:=P;have t:SRel n k f T mu S U fs bs nm U0 X lo fp w w c:=SRel.start r hd C j;have h:=aa t;have W:=(bI hn).2.2.2.2.2.2.2;have V:w.cell? ⟨n,0,none⟩=some (pB k):=(ae r.hn 0).trans rfl;have A:=aa hn;have g:=aa (t.drew.part m);clear r hd C j t hn
 go_enter func252,ntmps252
 go_wp2_with fail;refine(bi w 2 R).mono ?_;rintro e u ⟨rfl,rfl⟩;go_wp2_with fail
 go_still_tail 8,(by kernel_rfl)
 change wpList _ _ _ _ _ w.drew;go_wp2_with fail;refine g.mono ?_;intro e u a;cases ho:bV c with
 | none =>
  obtain⟨c1,Q,rfl,l⟩:=SRel.gave a ho;have q:=aa (l _ (show eQ fs fp (.var s p none) c=none by rw[cf];simp[cQ,ho]));clear ho a l;go_wp2_with fail;exact⟨rfl,q.out⟩
 | some c1 =>
  obtain⟨rfl,v⟩:=SRel.go a ho h.out;have y:=aa ho;have B:=aa v;obtain⟨F,G,H,I,J,K,L,z7⟩:=bI (v.tree b _ i A.out);clear ho a v W V g h;have z:=aa (B.drew.decl N.out m p);go_wp2_with fail
  go_still_tail 13,(by kernel_rfl)
  change wpList _ _ _ _ _ u.drew;go_wp2_with fail;refine z.mono ?_;intro e Y a;cases ho:lU s p c1 with
  | none =>
   obtain⟨c1,Q,rfl,l⟩:=SRel.gave a ho;have q:=aa (l _ (show eQ fs fp (.var s p none) c=none by rw[cf];simp[cQ,y.out,ho]));clear ho a l;go_wp2_with fail;exact⟨rfl,q.out⟩
  | some c2 =>
   obtain⟨rfl,x⟩:=SRel.go a ho B.out;have M:=aa ho;have O:=aa x;clear F G H I J K L z7;obtain⟨F,G,H,I,J,K,L,z7⟩:=bI (x.tree b _ i A.out);clear ho a x z;have d:=aa (O.ended (o:=eQ fs fp (.var s p none) c) (by rw[cf];simp[cQ,y.out,M.out]));go_wp2_with fail;go_end0;exact d.out
theorem Hy (fs:List Fun) (bs:List Nat) (nm:Tx) (U0:Tx->Option Value) (lo:Nat) (fp:Bool) (s:Tx) (p:Bool) (r:Ex):StC fs bs nm U0 lo fp (.var s p (some r)):=by
 intro w n k f mf mu Z mt ur c b Y H hd R t S J;rw[ci]at S;unfold SmW at J;obtain⟨X,h,rb,hn,I⟩:=S;have V:=aa J.1;have G:=aa J.2;have g:b<lo:=X;have K:SRel n k f mf mu Z mt fs bs nm U0 ur lo fp w w c:=SRel.start H hd R t;have q:=aa K;have q7:=(bI hn).2.2.2.2.2.2.2;have p0:w.cell? ⟨n,0,none⟩=some (pB k):=(ae H.hn 0).trans rfl;have E:=aa hn;have m:=aa (K.drew.part h);have F:=aa I;clear H hd R t K hn
 go_enter func252,ntmps252
 go_wp2_with fail;refine(bi w 2 Y).mono ?_;rintro e u ⟨rfl,rfl⟩;go_wp2_with fail
 go_still_tail 8,(by kernel_rfl)
 change wpList _ _ _ _ _ w.drew;go_wp2_with fail;refine m.mono ?_;intro e u a;cases ho:bV c with
 | none =>
  obtain⟨c1,T,rfl,d⟩:=SRel.gave a ho;have l:=aa (d _ (show eQ fs fp (.var s p (some r)) c=none by rw[cf];simp[cQ,ho]));clear ho a d;go_wp2_with fail;exact⟨rfl,l.out⟩
 | some c1 =>
  obtain⟨rfl,L⟩:=SRel.go a ho q.out;have D:=aa ho;have P:=aa L;obtain⟨v,x,y,z,A,B,C,z7⟩:=bI (L.tree b _ g E.out);clear ho a L q7 p0 m q;have i:=aa (P.drew.kind F.out G.out h p);go_wp2_with fail
  go_still_tail 13,(by kernel_rfl)
  change wpList _ _ _ _ _ u.drew;go_wp2_with fail;refine i.mono ?_;intro e v2 a;cases ho:dQ fs r p c1 with
  | none =>
   obtain⟨c1,T,rfl,d⟩:=SRel.gave a ho;have l:=aa (d _ (show eQ fs fp (.var s p (some r)) c=none by rw[cf];simp[cQ,D.out,ho]));clear ho a d;go_wp2_with fail;exact⟨rfl,l.out⟩
  | some c2 =>
   obtain⟨rfl,M⟩:=SRel.go a ho P.out;have O:=aa ho;have Q:=aa M;clear v x y z A B C z7;obtain⟨v,x,y,z,A,B,C,z7⟩:=bI (M.tree b _ g E.out);clear ho a M i;have i:=aa (Q.drew.decl V.out h p);go_wp2_with fail
   go_still_tail 13,(by kernel_rfl)
   change wpList _ _ _ _ _ v2.drew;go_wp2_with fail;refine i.mono ?_;intro e v3 a;cases ho:lU s p c2 with
   | none =>
    obtain⟨c1,T,rfl,d⟩:=SRel.gave a ho;have l:=aa (d _ (show eQ fs fp (.var s p (some r)) c=none by rw[cf];simp[cQ,D.out,O.out,ho]));clear ho a d;go_wp2_with fail;exact⟨rfl,l.out⟩
   | some c3 =>
    obtain⟨rfl,N⟩:=SRel.go a ho Q.out;have U:=aa ho;have W:=aa N;clear v x y z A B C z7;obtain⟨v,x,y,z,A,B,C,z7⟩:=bI (N.tree b _ g E.out);clear ho a N i;have j:=aa (W.ended (o:=eQ fs fp (.var s p (some r)) c) (by rw[cf];simp[cQ,D.out,O.out,U.out]));go_wp2_with fail;go_end0;exact j.out
theorem J0 (fs:List Fun) (bs:List Nat) (nm:Tx) (U0:Tx->Option Value) (lo:Nat) (fp:Bool) (r:Ex) (a:List Sm) (ha:∀x∈a,StC fs bs nm U0 lo fp x):StC fs bs nm U0 lo fp (.whl r a):=by
 intro w n k f mf mu md mt ur c b ln L hd V s W N;rw[ci]at W;unfold SmW at N;obtain⟨hb,i,rb,vx,bx,hn,M,t,v⟩:=W;have Z:=aa N.1;have K:=aa N.2;have h:b<lo:=hb;have O:SRel n k f mf mu md mt fs bs nm U0 ur lo fp w w c:=SRel.start L hd V s;have q:=aa O;have q7:=(bI hn).2.2.2.2.2.2.2;have p0:w.cell? ⟨n,0,none⟩=some (pB k):=(ae L.hn 0).trans rfl;have G:=aa hn;have p:=aa (O.drew.part i);have J:=aa M;have H:=aa t;have I:=aa v;clear t v;clear L hd V s O hn
 go_enter func252,ntmps252
 go_wp2_with fail;refine(bi w 2 ln).mono ?_;rintro e u ⟨rfl,rfl⟩;go_wp2_with fail
 go_still_tail 8,(by kernel_rfl)
 change wpList _ _ _ _ _ w.drew;go_wp2_with fail;refine p.mono ?_;intro e u d;cases ho:bV c with
 | none =>
  obtain⟨c1,X,rfl,g⟩:=SRel.gave d ho;have m:=aa (g _ (show eQ fs fp (.whl r a) c=none by rw[cf];simp[cQ,ho]));clear ho d g;go_wp2_with fail;exact⟨rfl,m.out⟩
 | some c1 =>
  obtain⟨rfl,P⟩:=SRel.go d ho q.out;have F:=aa ho;have T:=aa P;obtain⟨y,z,A,B,C,D,E,z7⟩:=bI (P.tree b _ h G.out);clear ho d P q7 p0 p q;have j:=aa (T.drew.kind J.out Z.out i false);go_wp2_with fail
  go_still_tail 9,(by kernel_rfl)
  change wpList _ _ _ _ _ u.drew;go_wp2_with fail;refine j.mono ?_;intro e v2 d;cases ho:dQ fs r false c1 with
  | none =>
   obtain⟨c1,X,rfl,g⟩:=SRel.gave d ho;have m:=aa (g _ (show eQ fs fp (.whl r a) c=none by rw[cf];simp[cQ,F.out,ho]));clear ho d g;go_wp2_with fail;exact⟨rfl,m.out⟩
  | some c2 =>
   obtain⟨rfl,Q⟩:=SRel.go d ho T.out;have S:=aa ho;have U:=aa Q;clear y z A B C D E z7;obtain⟨y,z,A,B,C,D,E,z7⟩:=bI (Q.tree b _ h G.out);clear ho d Q j;have j:=aa (U.drew.block ha H.out I.out K.out i);go_wp2_with fail
   go_still_tail 9,(by kernel_rfl)
   change wpList _ _ _ _ _ v2.drew;go_wp2_with fail;refine j.mono ?_;intro e v3 d;cases ho:gY fs fp a c2 with
   | none =>
    obtain⟨c1,X,rfl,g⟩:=SRel.gave d ho;have m:=aa (g _ (show eQ fs fp (.whl r a) c=none by rw[cf];simp[cQ,F.out,S.out,ho]));clear ho d g;go_wp2_with fail;exact⟨rfl,m.out⟩
   | some c3 =>
    obtain⟨rfl,R⟩:=SRel.go d ho U.out;have Y:=aa ho;have S3:=aa R;clear y z A B C D E z7;obtain⟨y,z,A,B,C,D,E,z7⟩:=bI (R.tree b _ h G.out);clear ho d R j;have l:=aa (S3.ended (o:=eQ fs fp (.whl r a) c) (by rw[cf];simp[cQ,F.out,S.out,Y.out]));go_wp2_with fail;go_end0;exact l.out
theorem J4 (fs:List Fun) (bs:List Nat) (nm:Tx) (U0:Tx->Option Value) (lo:Nat) (fp:Bool) (r:Ex) (a y:List Sm) (ha:∀x∈a,StC fs bs nm U0 lo fp x) (hy:∀x∈y,StC fs bs nm U0 lo fp x):StC fs bs nm U0 lo fp (.iff r a y):=by
 intro w n k f mf mu md mt ur c b ln T hd hf D ht K;rw[ci]at ht;unfold SmW at K;obtain⟨hb,i,rb,vx,vy,bx,yx,hn,U,E,G,F,H⟩:=ht;have HW:=aa K.1;have R:=aa K.2.1;have S:=aa K.2.2;have h:b<lo:=hb;have W:SRel n k f mf mu md mt fs bs nm U0 ur lo fp w w c:=SRel.start T hd hf D;have C:=aa W;have q7:=(bI hn).2.2.2.2.2.2.2;have p0:w.cell? ⟨n,0,none⟩=some (pB k):=(ae T.hn 0).trans rfl;have J:=aa hn;have B:=aa (W.drew.part i);have Q:=aa U;have M:=aa E;have O:=aa G;have N:=aa F;have P:=aa H;clear E G F H;clear T hd hf D W hn
 go_enter func252,ntmps252
 go_wp2_with fail;refine(bi w 2 ln).mono ?_;rintro e u ⟨rfl,rfl⟩;go_wp2_with fail
 go_still_tail 8,(by kernel_rfl)
 change wpList _ _ _ _ _ w.drew;go_wp2_with fail;refine B.mono ?_;intro e u d;cases ho:bV c with
 | none =>
  obtain⟨c1,V,rfl,g⟩:=SRel.gave d ho;have l:=aa (g _ (show eQ fs fp (.iff r a y) c=none by rw[cf];simp[cQ,ho]));clear ho d g;go_wp2_with fail;exact⟨rfl,l.out⟩
 | some c1 =>
  obtain⟨rfl,X⟩:=SRel.go d ho C.out;have I:=aa ho;have S1:=aa X;obtain⟨m,p,q,s,t,v,z,z7⟩:=bI (X.tree b _ h J.out);clear ho d X q7 p0 B C;have j:=aa (S1.drew.kind Q.out HW.out i false);go_wp2_with fail
  go_still_tail 9,(by kernel_rfl)
  change wpList _ _ _ _ _ u.drew;go_wp2_with fail;refine j.mono ?_;intro e v2 d;cases ho:dQ fs r false c1 with
  | none =>
   obtain⟨c1,V,rfl,g⟩:=SRel.gave d ho;have l:=aa (g _ (show eQ fs fp (.iff r a y) c=none by rw[cf];simp[cQ,I.out,ho]));clear ho d g;go_wp2_with fail;exact⟨rfl,l.out⟩
  | some c2 =>
   obtain⟨rfl,Y⟩:=SRel.go d ho S1.out;have L:=aa ho;have S2:=aa Y;clear m p q s t v z z7;obtain⟨m,p,q,s,t,v,z,z7⟩:=bI (Y.tree b _ h J.out);clear ho d Y j;have j:=aa (S2.drew.block ha M.out O.out R.out i);go_wp2_with fail
   go_still_tail 9,(by kernel_rfl)
   change wpList _ _ _ _ _ v2.drew;go_wp2_with fail;refine j.mono ?_;intro e v3 d;cases ho:gY fs fp a c2 with
   | none =>
    obtain⟨c1,V,rfl,g⟩:=SRel.gave d ho;have l:=aa (g _ (show eQ fs fp (.iff r a y) c=none by rw[cf];simp[cQ,I.out,L.out,ho]));clear ho d g;go_wp2_with fail;exact⟨rfl,l.out⟩
   | some c3 =>
    obtain⟨rfl,Z⟩:=SRel.go d ho S2.out;have E3:=aa ho;have S3:=aa Z;clear m p q s t v z z7;obtain⟨m,p,q,s,t,v,z,z7⟩:=bI (Z.tree b _ h J.out);clear ho d Z j;have j:=aa (S3.drew.block hy N.out P.out S.out i);go_wp2_with fail
    go_still_tail 9,(by kernel_rfl)
    change wpList _ _ _ _ _ v3.drew;go_wp2_with fail;refine j.mono ?_;intro e v4 d;cases ho:gY fs fp y c3 with
    | none =>
     obtain⟨c1,V,rfl,g⟩:=SRel.gave d ho;have l:=aa (g _ (show eQ fs fp (.iff r a y) c=none by rw[cf];simp[cQ,I.out,L.out,E3.out,ho]));clear ho d g;go_wp2_with fail;exact⟨rfl,l.out⟩
    | some c4 =>
     obtain⟨rfl,s4⟩:=SRel.go d ho S3.out;have E4:=aa ho;have S4:=aa s4;clear m p q s t v z z7;obtain⟨m,p,q,s,t,v,z,z7⟩:=bI (s4.tree b _ h J.out);clear ho d s4 j;have A:=aa (S4.ended (o:=eQ fs fp (.iff r a y) c) (by rw[cf];simp[cQ,I.out,L.out,E3.out,E4.out]));go_wp2_with fail;go_end0;exact A.out
def MO (ops:Array Oper) (base l:Nat):Bool:=(List.range ops.size).all λj=>match ops[j]? with
 | some o=>o.guard.isNone&&o.after.all (λe=>decide (e.on<j))&&(decide (l<=j)||o.dst==some (base+j))
 | none=>true
theorem fE {base l:Nat} (h:MO ops base l=true):(∀(j:Nat) (o:Oper),ops[j]?=some o->j<l->o.dst=some (base+j))/\(∀(j:Nat) (o:Oper),ops[j]?=some o->o.guard=none)/\(∀(j:Nat) (o:Oper),ops[j]?=some o->∀e∈o.after,e.on<j):=by
 have b:∀(j:Nat) (o:Oper),ops[j]?=some o->(o.guard.isNone=true/\o.after.all (λe=>decide (e.on<j))=true)/\(l<=j\/o.dst=some (base+j)):=by
  intro j o a;have c:j<ops.size:=(A0.1 a).1;have:=fZ.1 h j (List.mem_range.2 c);simp only[a,bH,MA,bw,beq_iff_eq]at this;exact this
 refine⟨λj o a c=>?_,λj o a=>?_,λj o a e he=>?_⟩
 ·rcases(b j o a).2 with h|h
  ·omega
  ·exact h
 ·exact Option.isNone_iff_eq_none.1 (b j o a).1.1
 ·have:=(Array.all_eq_true'.1 (b j o a).1.2) e he
  simpa using this
theorem gH {o:Oper} (ho:o.op=.move x) (hg:o.guard=none) (hv:a.eval x=v):YieldsAt P ops u o v a:=by
 refine .inl ⟨by simp[Region.wanted,hg],.inl ?_⟩;unfold execOp;rw[ho];simp only[hv];rfl
theorem nf {o:Oper} {p:Addr} (ho:o.op=.nilCheck x) (hg:o.guard=none) (hv:a.eval x=.pointer (some p)):YieldsAt P ops u o (.pointer (some p)) a:=by
 refine .inl ⟨by simp[Region.wanted,hg],.inl ?_⟩;unfold execOp;rw[ho];simp only[hv];rfl
theorem g8 {o:Oper} (ho:o.op=.fieldAddr t x f) (hg:o.guard=none) (hv:a.eval x=q) (hr:(Instr.fieldAt t q f).run P u=.ok v u):YieldsAt P ops u o v a:=by
 refine .inl ⟨by simp[Region.wanted,hg],.inl ?_⟩;unfold execOp;rw[ho];simp only[hv];simp only[jX,hr];rfl
theorem jH {o:Oper} (ho:o.op=.load t x) (hg:o.guard=none) (hv:a.eval x=q) (hr:(Instr.loadAt t q).run P u=.ok v u):YieldsAt P ops u o v a:=by
 refine .inl ⟨by simp[Region.wanted,hg],.inl ?_⟩;unfold execOp;rw[ho];simp only[hv];simp only[jX,hr];rfl
theorem lX {o:Oper} {K:Act->World->Prop} {Q:Exit->Act->World->Prop} {args:Array Value} (hop:(execOp a.eval o).run P w=.ok (.enter f args) w') (hc:Calls P f args w' (λe z=>match e with | .returned v=>K (a.put o.dst v) z | .panicked chain=>Q (.panic chain) a z | .outgrown=>LetsOut Q)):o.wp P a w K Q:=by
 unfold Oper.wp;rw[hop,Oper.upon_enter];refine hc.mono λe z h=>?_;cases e<;>exact h
theorem J1 (fs:List Fun) (bs:List Nat) (nm:Tx) (U0:Tx->Option Value) (lo:Nat) (fp:Bool) (s:Tx) (r:Ex):StC fs bs nm U0 lo fp (.set s r):=by
 intro w n k f mf mu md mt ur c b ln T hd hf F ht I;rw[ci]at ht;unfold SmW at I;obtain⟨hb,m,rb,hn,H⟩:=ht;have Z:=aa I.1;have N:=aa I.2;have M:=aa H;clear H I;have P:b<lo:=hb;have U:SRel n k f mf mu md mt fs bs nm U0 ur lo fp w w c:=SRel.start T hd hf F;have D:=aa U;have J:=(bI hn).2.2.2.2.2.2.2;have p0:w.cell? ⟨n,0,none⟩=some (pB k):=(ae T.hn 0).trans rfl;have HN:=aa hn;have C:=aa (U.drew.part m);clear T hd hf F U hn
 go_enter func252,ntmps252
 go_wp2_with fail;refine(bi w 2 ln).mono ?_;rintro e u ⟨rfl,rfl⟩;go_wp2_with fail
 go_still_tail 8,(by kernel_rfl)
 change wpList _ _ _ _ _ w.drew;go_wp2_with fail;refine C.mono ?_;intro e u q;cases i:bV c with
 | none =>
  obtain⟨c1,t,rfl,G⟩:=SRel.gave q i;have B:=aa (G _ (show eQ fs fp (.set s r) c=none by rw[cf];simp[cQ,i]));clear i q G;go_wp2_with fail;exact⟨rfl,B.out⟩
 | some c1 =>
  obtain⟨rfl,V⟩:=SRel.go q i D.out;have K:=aa i;have E:=aa V;obtain⟨z0,z1,z2,z3,z4,z5,z6,z7⟩:=bI (V.tree b _ P HN.out);clear i q V J p0 C D;cases hq:qX s c1 with
  | none =>
   have L:Hid (Calls prog 264 #[pB n,.string ⟨s.toArray⟩,.int .i64 m] u.drew (λe w'=>∃x t,e=lN x t/\u.drew=w')):=by
    refine(E.drew.find Z.out m).mono ?_;rintro e z ⟨O,y⟩;rw[hq]at y;obtain⟨x,t,y⟩:=y;exact⟨x,t,y,O⟩
   have B:Hid (∀x t,lV (eQ fs fp (.set s r) c) n k f mf mu md mt fs bs nm U0 ur lo w (lN x t) u.drew):=λx t=>E.drew.gives (by rw[cf];simp[cQ,K.out,hq]) x t;clear hq;go_wp2_with fail;refine wp_region_any (by kernel_rfl) ?_;change wpAny _ _ _ _ _ _ _ (World.drew _);refine ni 65 19 14 _ [pB n,pB b,pB b,.pointer (some ⟨b,4,none⟩),pB rb,pB n,pB b,pB b,.pointer (some ⟨b,1,none⟩),.string ⟨s.toArray⟩,pB b,pB b,.pointer (some ⟨b,7,none⟩),.int .i64 m,.bool true,pB b,pB b,.pointer (some ⟨b,7,none⟩),.int .i64 m] (λ_=>False) (by kernel_rfl) rfl (cd rfl) (fE (by kernel_rfl)).1 (fE (base:=65) (l:=19) (by kernel_rfl)).2.1 (fE (base:=65) (l:=19) (by kernel_rfl)).2.2 (by kernel_rfl) (by kernel_rfl) (by omega) ?_ ?_ ?_
   ·have q1:∀v:World,v=u.drew\/False->v.cell? ⟨b,1,none⟩=some (.string ⟨s.toArray⟩):=λv h=>by rcases h with rfl|h;exact z1;exact h.elim
    have q4:∀v:World,v=u.drew\/False->v.cell? ⟨b,4,none⟩=some (pB rb):=λv h=>by rcases h with rfl|h;exact z4;exact h.elim
    have J:∀v:World,v=u.drew\/False->v.cell? ⟨b,7,none⟩=some (.int .i64 m):=λv h=>by rcases h with rfl|h;exact z7;exact h.elim
    intro v q j o i R S a g d;rcases j with _|j
    ·cases i;exact gH rfl rfl (g 0 (by decide))
    rcases j with _|j
    ·cases i;exact gH rfl rfl (g 1 (by decide))
    rcases j with _|j
    ·cases i;exact nf rfl rfl (d ⟨1,.data⟩ (by simp) rfl)
    rcases j with _|j
    ·cases i;exact g8 rfl rfl (d ⟨2,.data⟩ (by simp) rfl) (by go_simp)
    rcases j with _|j
    ·cases i;exact jH rfl rfl (d ⟨3,.data⟩ (by simp) rfl) (by have W:=q4 _ q;go_simp)
    rcases j with _|j
    ·cases i;exact gH rfl rfl (g 0 (by decide))
    rcases j with _|j
    ·cases i;exact gH rfl rfl (g 1 (by decide))
    rcases j with _|j
    ·cases i;exact nf rfl rfl (d ⟨6,.data⟩ (by simp) rfl)
    rcases j with _|j
    ·cases i;exact g8 rfl rfl (d ⟨7,.data⟩ (by simp) rfl) (by go_simp)
    rcases j with _|j
    ·cases i;exact jH rfl rfl (d ⟨8,.data⟩ (by simp) rfl) (by have W:=q1 _ q;go_simp)
    rcases j with _|j
    ·cases i;exact gH rfl rfl (g 1 (by decide))
    rcases j with _|j
    ·cases i;exact nf rfl rfl (d ⟨10,.data⟩ (by simp) rfl)
    rcases j with _|j
    ·cases i;exact g8 rfl rfl (d ⟨11,.data⟩ (by simp) rfl) (by go_simp)
    rcases j with _|j
    ·cases i;exact jH rfl rfl (d ⟨12,.data⟩ (by simp) rfl) (by have W:=J _ q;go_simp)
    rcases j with _|j
    ·exact absurd rfl R
    rcases j with _|j
    ·cases i;exact gH rfl rfl (g 1 (by decide))
    rcases j with _|j
    ·cases i;exact nf rfl rfl (d ⟨15,.data⟩ (by simp) rfl)
    rcases j with _|j
    ·cases i;exact g8 rfl rfl (d ⟨16,.data⟩ (by simp) rfl) (by go_simp)
    rcases j with _|j
    ·cases i;exact jH rfl rfl (d ⟨17,.data⟩ (by simp) rfl) (by have W:=J _ q;go_simp)
    exact absurd S (by omega)
   ·intro o i a Q g d
    cases i;have e0:a.eval (.tmp 70)=pB n:=d ⟨5,.data⟩ (by simp) rfl;have e1:a.eval (.tmp 74)=.string ⟨s.toArray⟩:=d ⟨9,.data⟩ (by simp) rfl;have e2:a.eval (.tmp 78)=.int .i64 m:=d ⟨13,.data⟩ (by simp) rfl;refine lX (f:=264) (args:=#[pB n,.string ⟨s.toArray⟩,.int .i64 m]) (w':=u.drew) ?_ ?_
    ·have e3:a.eval (.func 264)=.func (.func 264) #[] #[]:=rfl
     clear g d;generalize a.eval=ρ at e0 e1 e2 e3;unfold execOp;go_simp
    ·refine L.mono ?_
     rintro e z ⟨x,t,rfl,rfl⟩;exact⟨Q,B.out x t⟩
   ·exactλ_ _ _ h=>h.elim
  | some p =>
   have L:Hid (Calls prog 264 #[pB n,.string ⟨s.toArray⟩,.int .i64 m] u.drew (λe w'=>e=.returned (.bool p)/\w'=u.drew)):=by
    refine(E.drew.find Z.out m).mono ?_;rintro e z ⟨O,y⟩;rw[hq]at y;exact⟨y,O.symm⟩
   have X:=aa (E.drew.kind M.out N.out m p);have Y:=aa hq;clear hq;go_wp2_with fail;refine wp_region_still_tail 19 (by kernel_rfl) (by kernel_rfl) ?_;simp only[gW,bO,List.drop_succ_cons,List.drop_zero];change wpStill _ _ u.drew _ _ _
   iterate 14 still_step
   still_call L.out
   iterate 4 still_step
   refine wpStill_nil ?_;change wpList _ _ _ _ _ u.drew;go_wp2_with fail;refine X.mono ?_;intro e v2 q;cases i:dQ fs r p c1 with
   | none =>
    obtain⟨c1,t,rfl,G⟩:=SRel.gave q i;have B:=aa (G _ (show eQ fs fp (.set s r) c=none by rw[cf];simp[cQ,K.out,Y.out,i]));clear i q G;go_wp2_with fail;exact⟨rfl,B.out⟩
   | some c2 =>
    obtain⟨rfl,s2⟩:=SRel.go q i E.out;have E2:=aa i;have A:=aa (s2.ended (o:=eQ fs fp (.set s r) c) (by rw[cf];simp[cQ,K.out,Y.out,E2.out]));clear i q s2 X z0 z1 z2 z3 z4 z5 z6 z7;go_wp2_with fail;go_end0;exact A.out
theorem SRel.below {mf:Nat} {fs:List Fun} {bs:List Nat} {U0:Tx->Option Value} {lo:Nat} {fp:Bool} {w0:World} {c:CS} (h:SRel n k f mf mu md mt fs bs nm U0 ur lo fp w0 w c) (hb:Below w.heap.size w w'):SRel n k f mf mu md mt fs bs nm U0 ur lo fp w0 w' c:=by
 obtain⟨b,a,d,e,g,i⟩:=h.st;exact⟨h.chg.on hb,⟨b,a,d.below hb,e,g,i⟩,h.kd,h.env,h.fpp⟩
theorem yC (fs:List Fun) (bs:List Nat) (nm:Tx) (U0:Tx->Option Value) (lo:Nat) (fp:Bool) (l r:Ex) (lk:Int) (hlk:lk=5\/lk=6) (hkk:∀(v:World) (A:Nat->Prop) (lb:Nat),bK v A lb l->v.cell? ⟨lb,0,none⟩=some (.int .i64 lk)):StC fs bs nm U0 lo fp (.cell l r):=by
 intro w n k f G mu D E F c b ln hk hd hf a0 ht hw;rw[ci]at ht;unfold SmW at hw;obtain⟨hb,m,lb,M,hn,a1,a2⟩:=ht;have a6:=aa hw.2.1;have a7:=aa hw.2.2;have S:=aa a1;have a5:=aa a2;have a3:=aa hkk;clear a2 a1 hw hkk;have y:b<lo:=hb;have s0:SRel n k f G mu D E fs bs nm U0 F lo fp w w c:=SRel.start hk hd hf a0;have R:=aa s0;have J:=(bI hn).2.2.2.2.2.2.2;have p0:w.cell? ⟨n,0,none⟩=some (pB k):=(ae hk.hn 0).trans rfl;have P:=aa hn;have Q:=aa (s0.drew.part m);clear hk hd hf a0 s0 hn
 go_enter func252,ntmps252
 go_wp2_with fail;refine(bi w 2 ln).mono ?_;rintro e u ⟨rfl,rfl⟩;go_wp2_with fail
 go_still_tail 8,(by kernel_rfl)
 change wpList _ _ _ _ _ w.drew;go_wp2_with fail;refine Q.mono ?_;intro e u s;cases i:bV c with
 | none =>
  obtain⟨c1,l1,rfl,L⟩:=SRel.gave s i;have O:=aa (L _ (show eQ fs fp (.cell l r) c=none by rw[cf];simp[cQ,i]));clear i s L;go_wp2_with fail;exact⟨rfl,O.out⟩
 | some c1 =>
  obtain⟨rfl,s1⟩:=SRel.go s i R.out;have E1:=aa i;have S1:=aa s1;obtain⟨z0,z1,z2,z3,z4,z5,z6,z7⟩:=bI (s1.tree b _ y P.out);clear i s s1 J p0 Q R;have r0:u.cell? ⟨lb,0,none⟩=some (.int .i64 lk):=a3.out _ _ _ (S.onA S1.tree);have O:Hid (∀(z:World) (e:Ending),Eq e/\Chg (SS n k mu D E F) w z->eQ fs fp (.cell l r) c=none->lV (eQ fs fp (.cell l r) c) n k f G mu D E fs bs nm U0 F lo w e z):=λz e h h2=>⟨h.2,by rw[h2];exact h.1⟩;rcases hlk with rfl|rfl
  all_goals
   go_wp2_with fail
   go_quiet (first
    | (go_at_call 183;exact(bi _ _ _).mono λe u ⟨h1,h2⟩=>⟨h1,_,h2.symm⟩))
   have S2:Hid (SRel n k f G mu D E fs bs nm U0 F lo fp w (u.drewN nq) c1):=S1.below ⟨rfl,rfl,rfl,ag _,λ_ _=>rfl⟩;clear r0 z0 z1 z2 z3 z4 z5 z6 z7;generalize u.drewN nq=v at S2;have HX:Hid (Calls prog 265 #[pB n,pB lb,.int .i64 m] v.drew (MM n k f G mu D E fs bs nm U0 F lo fp w (gA fs l c1))):=S2.drew.ex S.out a6.out m;obtain⟨z0,z1,z2,z3,z4,z5,z6,z7⟩:=bI (S2.drew.tree b _ y P.out);clear z0 z1 z2 z5 z6;go_wp2_with fail;cases C:gA fs l c1 with
   | none =>
    have a4:=aa (show eQ fs fp (.cell l r) c=none by rw[cf];simp[cQ,E1.out,C]);rw[C]at HX;refine wp_region_any (by kernel_rfl) ?_;change wpAny _ _ _ _ _ _ _ (World.drew _);refine ni 117 19 14 _ [pB n,pB b,pB b,.pointer (some ⟨b,4,none⟩),pB M,pB n,pB b,pB b,.pointer (some ⟨b,3,none⟩),pB lb,pB b,pB b,.pointer (some ⟨b,7,none⟩),.int .i64 m,.bool true,pB b,pB b,.pointer (some ⟨b,7,none⟩),.int .i64 m] (λz=>False) (by kernel_rfl) rfl (cd rfl) (fE (by kernel_rfl)).1 (fE (base:=117) (l:=19) (by kernel_rfl)).2.1 (fE (base:=117) (l:=19) (by kernel_rfl)).2.2 (by kernel_rfl) (by kernel_rfl) (by omega) ?_ ?_ ?_
    ·have q3:∀x:World,x=v.drew\/False->x.cell? ⟨b,3,none⟩=some (pB lb):=λx h=>by rcases h with rfl|h;exact z3;exact h.elim
     have q4:∀x:World,x=v.drew\/False->x.cell? ⟨b,4,none⟩=some (pB M):=λx h=>by rcases h with rfl|h;exact z4;exact h.elim
     have J:∀x:World,x=v.drew\/False->x.cell? ⟨b,7,none⟩=some (.int .i64 m):=λx h=>by rcases h with rfl|h;exact z7;exact h.elim
     intro v s j o i H I a g d;rcases j with _|j
     ·cases i;exact gH rfl rfl (g 0 (by decide))
     rcases j with _|j
     ·cases i;exact gH rfl rfl (g 1 (by decide))
     rcases j with _|j
     ·cases i;exact nf rfl rfl (d ⟨1,.data⟩ (by simp) rfl)
     rcases j with _|j
     ·cases i;exact g8 rfl rfl (d ⟨2,.data⟩ (by simp) rfl) (by go_simp)
     rcases j with _|j
     ·cases i;exact jH rfl rfl (d ⟨3,.data⟩ (by simp) rfl) (by have K:=q4 _ s;go_simp)
     rcases j with _|j
     ·cases i;exact gH rfl rfl (g 0 (by decide))
     rcases j with _|j
     ·cases i;exact gH rfl rfl (g 1 (by decide))
     rcases j with _|j
     ·cases i;exact nf rfl rfl (d ⟨6,.data⟩ (by simp) rfl)
     rcases j with _|j
     ·cases i;exact g8 rfl rfl (d ⟨7,.data⟩ (by simp) rfl) (by go_simp)
     rcases j with _|j
     ·cases i;exact jH rfl rfl (d ⟨8,.data⟩ (by simp) rfl) (by have K:=q3 _ s;go_simp)
     rcases j with _|j
     ·cases i;exact gH rfl rfl (g 1 (by decide))
     rcases j with _|j
     ·cases i;exact nf rfl rfl (d ⟨10,.data⟩ (by simp) rfl)
     rcases j with _|j
     ·cases i;exact g8 rfl rfl (d ⟨11,.data⟩ (by simp) rfl) (by go_simp)
     rcases j with _|j
     ·cases i;exact jH rfl rfl (d ⟨12,.data⟩ (by simp) rfl) (by have K:=J _ s;go_simp)
     rcases j with _|j
     ·exact absurd rfl H
     rcases j with _|j
     ·cases i;exact gH rfl rfl (g 1 (by decide))
     rcases j with _|j
     ·cases i;exact nf rfl rfl (d ⟨15,.data⟩ (by simp) rfl)
     rcases j with _|j
     ·cases i;exact g8 rfl rfl (d ⟨16,.data⟩ (by simp) rfl) (by go_simp)
     rcases j with _|j
     ·cases i;exact jH rfl rfl (d ⟨17,.data⟩ (by simp) rfl) (by have K:=J _ s;go_simp)
     exact absurd I (by omega)
    ·intro o i a Z g d
     cases i;have U:a.eval (.tmp 122)=pB n:=d ⟨5,.data⟩ (by simp) rfl;have V:a.eval (.tmp 126)=pB lb:=d ⟨9,.data⟩ (by simp) rfl;have W:a.eval (.tmp 130)=.int .i64 m:=d ⟨13,.data⟩ (by simp) rfl;refine lX (f:=265) (args:=#[pB n,pB lb,.int .i64 m]) (w':=v.drew) ?_ ?_
     ·have X:a.eval (.func 265)=.func (.func 265) #[] #[]:=rfl
      clear g d;generalize a.eval=ρ at U V W X;unfold execOp;go_simp
     ·refine HX.mono ?_
      rintro e z C;have L:=O.out z e C a4.out;obtain⟨⟨k1,l1,rfl⟩,_⟩:=C;exact⟨Z,L⟩
    ·exactλ_ _ _ h=>h.elim
   | some q =>
    obtain⟨p,c2⟩:=q;have T:=aa C;rw[C]at HX;refine wp_region_any (by kernel_rfl) ?_;change wpAny _ _ _ _ _ _ _ (World.drew _);refine ni 117 19 14 _ [pB n,pB b,pB b,.pointer (some ⟨b,4,none⟩),pB M,pB n,pB b,pB b,.pointer (some ⟨b,3,none⟩),pB lb,pB b,pB b,.pointer (some ⟨b,7,none⟩),.int .i64 m,.bool p,pB b,pB b,.pointer (some ⟨b,7,none⟩),.int .i64 m] (λz=>SRel n k f G mu D E fs bs nm U0 F lo fp w z c2) (by kernel_rfl) rfl (cd rfl) (fE (by kernel_rfl)).1 (fE (base:=117) (l:=19) (by kernel_rfl)).2.1 (fE (base:=117) (l:=19) (by kernel_rfl)).2.2 (by kernel_rfl) (by kernel_rfl) (by omega) ?_ ?_ ?_
    ·have q3:∀x:World,x=v.drew\/SRel n k f G mu D E fs bs nm U0 F lo fp w x c2->x.cell? ⟨b,3,none⟩=some (pB lb):=λx h=>by rcases h with rfl|h;exact z3;exact(bI (h.tree b _ y P.out)).2.2.2.1
     have q4:∀x:World,x=v.drew\/SRel n k f G mu D E fs bs nm U0 F lo fp w x c2->x.cell? ⟨b,4,none⟩=some (pB M):=λx h=>by rcases h with rfl|h;exact z4;exact(bI (h.tree b _ y P.out)).2.2.2.2.1
     have J:∀x:World,x=v.drew\/SRel n k f G mu D E fs bs nm U0 F lo fp w x c2->x.cell? ⟨b,7,none⟩=some (.int .i64 m):=λx h=>by rcases h with rfl|h;exact z7;exact(bI (h.tree b _ y P.out)).2.2.2.2.2.2.2
     intro v s j o i H I a g d;rcases j with _|j
     ·cases i;exact gH rfl rfl (g 0 (by decide))
     rcases j with _|j
     ·cases i;exact gH rfl rfl (g 1 (by decide))
     rcases j with _|j
     ·cases i;exact nf rfl rfl (d ⟨1,.data⟩ (by simp) rfl)
     rcases j with _|j
     ·cases i;exact g8 rfl rfl (d ⟨2,.data⟩ (by simp) rfl) (by go_simp)
     rcases j with _|j
     ·cases i;exact jH rfl rfl (d ⟨3,.data⟩ (by simp) rfl) (by have K:=q4 _ s;go_simp)
     rcases j with _|j
     ·cases i;exact gH rfl rfl (g 0 (by decide))
     rcases j with _|j
     ·cases i;exact gH rfl rfl (g 1 (by decide))
     rcases j with _|j
     ·cases i;exact nf rfl rfl (d ⟨6,.data⟩ (by simp) rfl)
     rcases j with _|j
     ·cases i;exact g8 rfl rfl (d ⟨7,.data⟩ (by simp) rfl) (by go_simp)
     rcases j with _|j
     ·cases i;exact jH rfl rfl (d ⟨8,.data⟩ (by simp) rfl) (by have K:=q3 _ s;go_simp)
     rcases j with _|j
     ·cases i;exact gH rfl rfl (g 1 (by decide))
     rcases j with _|j
     ·cases i;exact nf rfl rfl (d ⟨10,.data⟩ (by simp) rfl)
     rcases j with _|j
     ·cases i;exact g8 rfl rfl (d ⟨11,.data⟩ (by simp) rfl) (by go_simp)
     rcases j with _|j
     ·cases i;exact jH rfl rfl (d ⟨12,.data⟩ (by simp) rfl) (by have K:=J _ s;go_simp)
     rcases j with _|j
     ·exact absurd rfl H
     rcases j with _|j
     ·cases i;exact gH rfl rfl (g 1 (by decide))
     rcases j with _|j
     ·cases i;exact nf rfl rfl (d ⟨15,.data⟩ (by simp) rfl)
     rcases j with _|j
     ·cases i;exact g8 rfl rfl (d ⟨16,.data⟩ (by simp) rfl) (by go_simp)
     rcases j with _|j
     ·cases i;exact jH rfl rfl (d ⟨17,.data⟩ (by simp) rfl) (by have K:=J _ s;go_simp)
     exact absurd I (by omega)
    ·intro o i a Z g d
     cases i;have U:a.eval (.tmp 122)=pB n:=d ⟨5,.data⟩ (by simp) rfl;have V:a.eval (.tmp 126)=pB lb:=d ⟨9,.data⟩ (by simp) rfl;have W:a.eval (.tmp 130)=.int .i64 m:=d ⟨13,.data⟩ (by simp) rfl;refine lX (f:=265) (args:=#[pB n,pB lb,.int .i64 m]) (w':=v.drew) ?_ ?_
     ·have X:a.eval (.func 265)=.func (.func 265) #[] #[]:=rfl
      clear g d;generalize a.eval=ρ at U V W X;unfold execOp;go_simp
     ·refine HX.mono ?_
      rintro e z C;obtain⟨rfl,hz⟩:=C;exact⟨rfl,hz⟩
    ·intro o i z hz
     cases i;have HC:=aa (hz.kind a5.out a7.out m p);have HZ:=aa hz;clear hz;refine lX (f:=263) (args:=#[pB n,pB M,.bool p,.int .i64 m]) (w':=z) ?_ ?_
     ·generalize Y:mV _ 117 _=A
      have B:∀t v,A.tmps.getD t undef=v->A.eval (.tmp t)=v:=λt v h=>h;have U:A.eval (.tmp 117)=pB n:=B _ _ (by rw[<- Y];exact(jL _ 117 _ (cd rfl) 117).trans rfl);have V:A.eval (.tmp 121)=pB M:=B _ _ (by rw[<- Y];exact(jL _ 117 _ (cd rfl) 121).trans rfl);have W:A.eval (.tmp 131)=.bool p:=B _ _ (by rw[<- Y];exact(jL _ 117 _ (cd rfl) 131).trans rfl);have X:A.eval (.tmp 135)=.int .i64 m:=B _ _ (by rw[<- Y];exact(jL _ 117 _ (cd rfl) 135).trans rfl);have e4:A.eval (.func 263)=.func (.func 263) #[] #[]:=rfl;clear Y B;generalize A.eval=ρ at U V W X e4;unfold execOp;go_simp
     ·refine HC.mono ?_
      intro e v2 s;cases i:dQ fs r p c2 with
      | none =>
       obtain⟨c1,l1,rfl,L⟩:=SRel.gave s i;have O:=aa (L _ (show eQ fs fp (.cell l r) c=none by rw[cf];simp[cQ,E1.out,T.out,i]));exact⟨rfl,O.out⟩
      | some c3 =>
       obtain⟨rfl,s2⟩:=SRel.go s i HZ.out;have E2:=aa i;have N:=aa (s2.ended (o:=eQ fs fp (.cell l r) c) (by rw[cf];simp[cQ,E1.out,T.out,E2.out]));clear i s s2 HC z3 z4 z7;simp only[mV];go_wp2_with fail;go_end0;exact N.out
end Go.Proofs.YtbeaaimcpkogcaaGreatDoor
