/- Lemmas on the way to the claim. -/
import Derived.Test.YtbeaaimcpkogcaaGreatDoorM23
import Derived.Test.YtbeaaimcpkogcaaGreatDoorM38
set_option linter.unusedSimpArgs false
set_option linter.unusedVariables false
set_option maxHeartbeats 16000000
set_option maxRecDepth 100000
namespace Go.Proofs.YtbeaaimcpkogcaaGreatDoor
open Go.Proofs.Tryz Go.RowKit
variable {A S:Nat->Prop} {q u v w w' w1:World} {F FB P X b cap eb gg lo size:Nat} {nm:Tx} {av vb vp:Value} {ps:List Par} {p:Bool} {xs:List Value} {o:Option PS} {s:PS} {ln:Int} {bs:List Nat} {fs l:List Fun}
structure FnAt (v:World) (FB F lo:Nat) (nm:Tx) (av:Value) (ps:List Par):Prop where
 box:One v FB (pB F) 61
 node:∃ln,v.heap[F]?=some (fnC nm av false bX ln)
 own:v.ownsRow lo 140 2 av ps.length (bE ps)
theorem FnAt.chg {v':World} (h:FnAt v FB F lo nm av ps) (hc:Chg S v v') (h1:¬S FB) (h2:¬S F) (h3:∀k,lo<=k->¬S k):FnAt v' FB F lo nm av ps:=by
 obtain⟨a,hn⟩:=h.node;exact⟨h.box.chg hc h1,⟨a,by rw[hc.block _ (ab hn) h2];exact hn⟩,fV h.own (hc.same h3)⟩
def Kt:Lst (List Par) where
 one _ a s:=(cR s).bind λr=>some (a++[⟨r.1,(cF cY r.2).1⟩],(cF cY r.2).2)
 all n b a s:=fI n b a s
 zero b a s:=rfl
 succ n b a s:=by
  show fI (n+1) b a s=_;rw[fI];split
  ·rfl
  ·cases(if b=true then some s else bP fy s)with
   | none=>rfl
   | some s1 =>
    show(cR s1).bind _=((cR s1).bind _).bind _;cases cR s1<;>rfl
 sz:=List.length
 szle n a s r h:=by
  cases hr:cR s with
  | none=>rw[hr]at h;cases h
  | some q=>rw[hr]at h;cases h;simp
 mono1 a s:=λn r h=>h
 mono b a s:=wZ b a s
theorem FnAt.app {p:Par} (hc:FnAt q FB F lo nm av ps) (hg:(q.alloc (.cells #[.string ⟨p.name.toArray⟩,.bool p.ptr] 140)).grownBy w1 av.ownBlock)
 (hown:w1.ownsRow lo 140 2 (.slice (some ⟨gg,0,none⟩) (ps.length+1) cap) (ps.length+1) (bE ps++[.string ⟨p.name.toArray⟩,.bool p.ptr])) (h1:FB<lo) (h2:F<lo) (h3:¬FB=F):
  FnAt (w1.setCell ⟨F,1,none⟩ (.slice (some ⟨gg,0,none⟩) (ps.length+1) cap)) FB F lo nm (.slice (some ⟨gg,0,none⟩) (ps.length+1) cap) (ps++[p]):=by
 obtain⟨c,hn⟩:=hc.node;have b:w1.heap[F]?=some (fnC nm av false bX c):=by
  rw[hg.block F (by have:=ab hn;rw[ah];omega) λe=>by have:=cG hc.own _ e.symm;omega,aK _ _ _ (ab hn)];exact hn
 have a:One w1 FB (pB F) 61:=by
  unfold One;rw[hg.block FB (by have:=ab hc.box;rw[ah];omega) λe=>by have:=cG hc.own _ e.symm;omega,aK _ _ _ (ab hc.box)];exact hc.box
 refine⟨a.setOther (p:=⟨F,1,none⟩) (iq h3) _,⟨c,aA (j:=1) b _⟩,?_⟩;rw[ac,nJ];exact bg hown (show F<lo from h2) _
theorem DZ {n:Nat} {T:TypeId} {o:Obj} (hown:q.ownsRow lo T size av n xs) (hg:(q.alloc o).grownBy w1 av.ownBlock) {p:Addr} {u:Value} (hc:q.cell? p=some u) (hp:p.block<lo):w1.cell? p=some u:=by
 have a:p.block<q.heap.size:=ry q _ hc;have e:w1.heap[p.block]?=q.heap[p.block]?:=by
  rw[hg.block p.block (by rw[ah];omega) λe=>by have:=cG hown _ e.symm;omega,aK _ _ _ a]
 rw[aI (w:=q) e];exact hc
theorem PO.grown (h:PO u P o) {v:Value} {base:Nat} {e:TypeId} {m:Nat} (hown:u.ownsRow base e size v m xs) (he:e≠59) (he2:e≠122) (hP:P<base) (hg:u.grownBy w1 v.ownBlock):PO w1 P o:=by
 cases o with
 | some s=>exact PG.grown h hown he hP hg
 | none=>exact PB.grown h hown he he2 hP hg
theorem uC (v:World) (P B FB F lo:Nat) (nm:Tx) (av:Value) (ps:List Par) (o:Option PS) (h:PO v P o) (hB:One v B (pB P) 51) (hF:FnAt v FB F lo nm av ps) (hl:ps.length<=1000000) (hPB:P<B) (hPF:P<F) (hBF:¬B=F) (hFF:¬FB=F) (hPFB:¬FB=P) (h1:B<lo) (h2:FB<lo) (h3:F<lo) (hlo:lo<=v.heap.size):
  Calls prog 62 #[pB B,pB FB] v λe v'=>e=.returned (.tuple #[])/\Chg (λk=>k=P\/k=F\/lo<=k) v v'/\PO v' P (iO cY ((o.bind cR).map (·.2)))/\∃av',FnAt v' FB F lo nm av' (ps++[⟨nmO o,isO cY ((o.bind cR).map (·.2))⟩]):=by
 have b0:=hB.c
 go_enter func62,ntmps62
 go_wp2_with fail;refine(CD v P o h).mono ?_;rintro e u ⟨rfl,Y,m⟩;obtain⟨c,H⟩:∃c,nmO o=c:=⟨_,rfl⟩;obtain⟨I,D⟩:∃I,(o.bind cR).map (·.2)=I:=⟨_,rfl⟩;rw[H];rw[D]at m;have a3:=aa H;have Q:=aa D;have t:Below u.heap.size u (u.alloc (.cells #[.string ⟨c.toArray⟩,.bool false] 140)):=az;have an:=Y.size;have L:=aa ((Chg.mono (S':=λk=>k=P\/k=F\/lo<=k) Y λi _ e=>.inl e).on t);have J:=aa ((hB.chg Y (by omega)).below t);have N:=aa ((hF.chg Y (by omega) (by omega) (λk hk=>by omega)).chg (Chg.of_below (S:=λ_=>False) t) id id λ_ _=>id);have V:=aa (m.on t);have hV:(u.alloc (.cells #[.string ⟨c.toArray⟩,.bool false] 140)).heap[u.heap.size]?=some (.cells #[.string ⟨c.toArray⟩,.bool false] 140 (0,0)):=af _ _;have x:(u.alloc (.cells #[.string ⟨c.toArray⟩,.bool false] 140)).heap.size=u.heap.size+1:=ah _ _;clear Y m H D t b0;have HV:=aa hV;have W:=aa x;have b0:=J.c;clear hV x;go_wp2_with fail;have x:=W.out;generalize hr:u.alloc (.cells #[.string ⟨c.toArray⟩,.bool false] 140)=r at L J N V HV x b0;clear hr W;refine(p9 r P I V.out cY).mono ?_;rintro e z ⟨rfl,Z,m⟩;obtain⟨b,G⟩:∃b,isO cY I=b:=⟨_,rfl⟩;rw[G];have U:=aa G;have s:z.heap[u.heap.size]?=some (.cells #[.string ⟨c.toArray⟩,.bool false] 140 (0,0)):=by rw[Z.block _ (ab HV.out) (by omega)];exact HV.out
 have v1:z.cell? ⟨u.heap.size,1,none⟩=some (.bool false):=(ae s 1).trans rfl;have vf:z.frozen? ⟨u.heap.size,1,none⟩=false:=aD z _ 1 _ _ s;have A:=aa (N.chg Z (by omega) (by omega) (λk hk=>by omega));have a5:∀g,av.ownBlock=some g->g≠u.heap.size:=λg hg=>by have:=uG hF.own hg;omega
 have n:FnAt (z.setCell ⟨u.heap.size,1,none⟩ (.bool b)) FB F lo nm av ps:=by
  obtain⟨ln,hn⟩:=A.node;exact⟨A.box.setOther (p:=⟨u.heap.size,1,none⟩) (by show u.heap.size≠FB;omega) _,⟨ln,by rw[aM _ _ _ _ (by show F≠u.heap.size;omega)];exact hn⟩,gX A.own (p:=⟨u.heap.size,1,none⟩) a5 _⟩
 have K:=aa ((L.then (Chg.mono (S':=λk=>k=P\/k=F\/lo<=k) Z λi _ e=>.inl e)).setCell (p:=⟨u.heap.size,1,none⟩) (λ_=>.inr (.inr (by show lo<=u.heap.size;omega))) (.bool b));have T:=aa (m.setOther s (by decide) (by decide) (by omega) 1 (.bool b));have w:(z.setCell ⟨u.heap.size,1,none⟩ (.bool b)).heap[u.heap.size]?=some (.cells #[.string ⟨c.toArray⟩,.bool b] 140 (0,0)):=aA (j:=1) s _;have y:(z.setCell ⟨u.heap.size,1,none⟩ (.bool b)).heap.size=z.heap.size:=by simp[World.setCell]
 have ap:=Z.size;clear Z m G b0;go_wp2_with fail;generalize a9:z.setCell ⟨u.heap.size,1,none⟩ (.bool b)=r2 at n K T w y;clear a9 v1 vf s;have ak:z.heap.size<=r2.heap.size:=by omega
 clear y;have l:=aa n;obtain⟨ln,C⟩:=n.node;have c0:=n.box.c;have c1:r2.cell? ⟨F,1,none⟩=some av:=(ae C 1).trans rfl;have e0:r2.cell? ⟨u.heap.size,0,none⟩=some (.string ⟨c.toArray⟩):=(ae w 0).trans rfl;have e1:r2.cell? ⟨u.heap.size,1,none⟩=some (.bool b):=(ae w 1).trans rfl;have l0:=aH c0;have l1:=aH c1;have l2:=aH e0;have O:=aa C;have a0:Hid (∀d:World,(r2.drew.alloc (.cells #[.string ⟨c.toArray⟩,.bool b] 140)).grownBy d av.ownBlock ->
   d.cell? ⟨FB,0,none⟩=some (pB F)/\d.cell? ⟨F,1,none⟩=some av/\d.frozen? ⟨F,1,none⟩=false):=λd hg=>by
  have k0:d.heap[F]?=some (fnC nm av false bX ln):=by
   rw[hg.block F (by rw[ah];have:r2.drew.heap.size=r2.heap.size:=rfl;omega) λe=>by have:=cG l.own _ e.symm;omega,aK _ _ _ (by exact l1)];exact O.out
  exact⟨DZ (q:=r2.drew) l.own hg c0 (by exact h2),(ae k0 1).trans rfl,aD d F 1 _ _ k0⟩
 have R:Hid (∀v∈([.string ⟨c.toArray⟩,.bool b]:List Value),v.oneCell'=true):=λv hv=>by
  simp only[aR,jG,or_false]at hv;rcases hv with h|h<;>(subst h;rfl)
 have M:Hid (∀gg cap d,(r2.drew.alloc (.cells #[.string ⟨c.toArray⟩,.bool b] 140)).grownBy d av.ownBlock->d.ownsRow lo 140 2 (.slice (some ⟨gg,0,none⟩) (ps.length+1) cap) (ps.length+1) (bE ps++[.string ⟨c.toArray⟩,.bool b]) ->
   Chg (λk=>k=P\/k=F\/lo<=k) v (d.setCell ⟨F,1,none⟩ (.slice (some ⟨gg,0,none⟩) (ps.length+1) cap))/\PO (d.setCell ⟨F,1,none⟩ (.slice (some ⟨gg,0,none⟩) (ps.length+1) cap)) P (iO cY ((o.bind cR).map (·.2)))/\∃av',FnAt (d.setCell ⟨F,1,none⟩ (.slice (some ⟨gg,0,none⟩) (ps.length+1) cap)) FB F lo nm av' (ps++[⟨nmO o,isO cY ((o.bind cR).map (·.2))⟩])):=λgg cap d a f=>by
  have X:FnAt r2.drew FB F lo nm av ps:=l.chg (Chg.of_below (S:=λ_=>False) (ai _ _).drew) id id λ_ _=>id;have HE:=X.app (p:=⟨c,b⟩) (gg:=gg) (cap:=cap) a f h2 h3 hFF;have a1:=((((K.drew).alloc _).grown a (λk hk hl=>.inr (.inr (cG l.own k hk)))).setCell (p:=⟨F,1,none⟩) (λ_=>.inr (.inl rfl)) (.slice (some ⟨gg,0,none⟩) (ps.length+1) cap));have a4:Below r2.heap.size r2 (r2.drew.alloc (.cells #[.string ⟨c.toArray⟩,.bool b] 140)):=(ai _ _).drew.alloc (by exact ag _) _;have a6:d.heap[F]?=some (fnC nm av false bX ln):=by
   rw[a.block F (by rw[ah];have:r2.drew.heap.size=r2.heap.size:=rfl;omega) λe=>by have:=cG l.own _ e.symm;omega,aK _ _ _ (by exact l1)];exact O.out
  have E:(r2.drew.alloc (.cells #[.string ⟨c.toArray⟩,.bool b] 140)).ownsRow lo 140 2 av ps.length (bE ps):=X.own.alloc _;have a7:PO (r2.drew.alloc (.cells #[.string ⟨c.toArray⟩,.bool b] 140)) P (iO cY I):=T.on a4;have a8:PO d P (iO cY I):=PO.grown a7 E (by decide) (by decide) (by omega) a;have a2:=PO.setOther a8 a6 (by decide) (by decide) hPF 1 (.slice (some ⟨gg,0,none⟩) (ps.length+1) cap);refine⟨a1,?_,.slice (some ⟨gg,0,none⟩) (ps.length+1) cap,?_⟩
  ·rw[Q.out];exact a2
  ·rw[a3.out,Q.out,U.out];exact HE
 obtain⟨i0,hi,ac,ad,aj⟩:=cX Tryz.info140;clear n w C;have ao:=hl;go_wp2_with fail
 go_region_law (first
  | (refine step_append_lies _ (by rfl) _ _ _ (by rfl) lo 140 i0 (.agg #[.string ⟨#[]⟩,.bool false]) 2 24 underlying133 hi ac ad aj rfl (by omega) av ps.length (bE ps) (by rfl) (l.own.drew.alloc _) ⟨r2.heap.size,0,none⟩ 1 1 [.string ⟨c.toArray⟩,.bool b] (by rfl) (by rfl) (eu r2.drew _ _) R.out (by omega) (by unfold maxLen;omega) (by omega) (by simp;omega) (r2.heap.size+1) (by simp) ?_;intro gg cap d f a al am;obtain⟨k0,k1,k2⟩:=a0.out d a))
 all_goals (go_end0;exact⟨rfl,M.out gg cap d a f⟩)
theorem Ft (P:Nat) (w:World) (h:PB w P) (fid:FuncId) (caps:Array Value):
  Calls prog 61 #[pB P,.func (.func fid) #[] caps] w λe w'=>e=.returned (.tuple #[])/\Chg (·=P) w w'/\PB w' P:=by
 have m:∀(u:World) (o:Obj),(u.alloc o).heap.size=u.heap.size+1:=λu o=>ah _ _;generalize a:w.alloc (.cells #[pB P] 51)=w1;generalize b:w1.alloc (.cells #[.func (.func fid) #[] caps] 1)=w2;have p:w1.heap.size=w.heap.size+1:=by rw[<- a,m]
 have i:Below w1.heap.size w1 w2:=by rw[<- b];exact az
 have l:Below w.heap.size w w1:=by rw[<- a];exact az
 have j:=aa (show One w2 w.heap.size (pB P) 51 from(show One w1 w.heap.size (pB P) 51 by rw[<- a];exact af _ _).below i);have s:=aa (show One w2 (w.heap.size+1) (.func (.func fid) #[] caps) 1 by rw[<- b,<- p];exact af _ _);have k:=aa (show Below w.heap.size w w2 from l.trans (i.mono (by omega)));have n:=h.lt;have t:=aa (h.on k.out);clear l i m;have x:=j.c;have f:=aa (GG (·=P) P w2 cD t.out rfl 112 #[pB w.heap.size,pB (w.heap.size+1)] (λ_=>True)
  (λu hq c=>(uR P u w.heap.size (w.heap.size+1) _ hq (j.chg c (by omega)) (s.chg c (by omega))).mono λe u' ⟨h1,h2,h3⟩=>⟨h1,.of_below h2,trivial,h3⟩)
  (λu=>by kernel_rfl) (λu v q=>trivial))
 go_enter func61,ntmps61
 go_wp2_with fail;refine f.mono ?_;rintro e v ⟨rfl,c,_,d⟩;have r:=aa ((Chg.of_below (S:=(·=P)) k.out).then c);have g:=aa d;clear c d a b p x;go_wp2_with fail;go_end0;exact⟨rfl,r.out,g.out⟩
def plK (s:PS) (n:Nat):Option (List Par×PS):=inW cD s λs1=>CR Kt [] s1 n
theorem Fp (s:PS):ld λn=>plK s n:=λn r h=>qQ h λ_ _ h=>bJ h (λ_ e=>qz _ _ _ _ _ e) λ_ _ e=>e
theorem At {r:Tx×PS} (h:cR s=some r):(hd s).kind=1/\r.2=aS s:=by
 unfold cR at h;split at h
 ·rename_i hk;cases h;exact⟨hk,rfl⟩
 ·cases h
theorem Iz (w:World) (P B FB F:Nat) (nm:Tx) (o:Option PS) (h:PO w P o) (hN:∀s,o=some s->s.ts.length<=1000000) (hB:One w B (pB P) 51) (hF:FnAt w FB F (w.heap.size+2) nm bX []) (hPB:P<B) (hPF:P<F) (hBF:¬B=F) (hFF:¬FB=F) (hPFB:¬FB=P) (h1:B<w.heap.size) (h2:FB<w.heap.size) (h3:F<w.heap.size):
  Calls prog 61 #[pB P,.func (.func 62) #[] #[pB B,pB FB]] w λe w'=>e=.returned (.tuple #[])/\Chg (λk=>k=P\/k=F\/w.heap.size+2<=k) w w'/\∃q av ps,Out (λn=>o.bind λs=>plK s n) q/\PO w' P (q.map (·.2))/\FnAt w' FB F (w.heap.size+2) nm av ps /\
   ∀l s',q=some (l,s')->ps=l/\∃s,o=some s/\s'.ts.length<=s.ts.length/\s'.d=s.d:=by
 have O:=h.lt;cases o with
 | none =>
  refine(Ft P w h 62 _).mono ?_;rintro e w' ⟨rfl,g,j⟩;exact⟨rfl,g.mono λi _ e=>.inl e,none,bX,[],Out.const none,j,hF.chg g (by omega) (by omega) (λk D=>by omega),λl s' e=>by cases e⟩
 | some s =>
  have L:=hN s rfl;refine(rS Kt (λk=>k=P\/k=F\/w.heap.size+2<=k) P w s [] (λv l=>∃av,FnAt v FB F (w.heap.size+2) nm av l) (λv=>∃av ps,FnAt v FB F (w.heap.size+2) nm av ps) 62 #[pB B,pB FB]
   h ⟨bX,hF⟩ (.inl rfl) (by omega) (by omega) (λu a ⟨av,h⟩=>⟨av,a,h⟩) ?_ ?_ (λu=>by kernel_rfl)
   (λv J a ⟨av,h⟩ g=>⟨av,h.chg g (by omega) (by omega) (λk D=>by omega)⟩)
   (λv J ⟨av,ps,h⟩ g=>⟨av,ps,h.chg g (by omega) (by omega) (λk D=>by omega)⟩)).mono ?_
  ·rintro v a A p ⟨av,c⟩ g z M y
   have C:a.length+A.ts.length<=0+s.ts.length:=y;refine(uC v P B FB F (w.heap.size+2) nm av a (some A) p (hB.chg g (by omega)) c (by omega) hPB hPF hBF hFF hPFB (by omega) (by omega) (by omega) z).mono ?_;rintro e J ⟨rfl,t,f,m,b⟩;refine⟨rfl,t,?_⟩;rw[aj]at f b;cases hq:cR A with
   | none =>
    rw[hq]at f;exact .inr ⟨λn=>by show(cR A).bind _=none;rw[hq];rfl,⟨m,_,b⟩,f⟩
   | some r =>
    rw[hq]at f b;obtain⟨D,K⟩:=At hq;have E:=d9 (p.long (by rw[D];decide));have I:=nt cY r.2;rw[<- K]at E;have G:nmO (some A)=r.1:=by unfold nmO;rw[aj,hq]
    refine .inl ⟨a++[⟨r.1,(cF cY r.2).1⟩],(cF cY r.2).2,⟨0,by show(cR A).bind _=_;rw[hq];rfl⟩,by omega,I.2.trans (by rw[K];rfl),⟨m,?_⟩,f⟩;rw[G]at b;rw[nu];exact b
  ·rintro v a j ⟨av,c⟩ g z y
   have C:a.length<=0+s.ts.length:=y;refine(uC v P B FB F (w.heap.size+2) nm av a none j (hB.chg g (by omega)) c (by omega) hPB hPF hBF hFF hPFB (by omega) (by omega) (by omega) z).mono ?_;rintro e J ⟨rfl,t,f,m,b⟩;exact⟨rfl,t,⟨m,_,b⟩,f⟩
  ·rintro e w' ⟨rfl,g,x⟩
   refine⟨rfl,g,?_⟩;rcases x with⟨l,N,H,M,hd,⟨av,c⟩,p⟩|⟨H,⟨av,ps,c⟩,j⟩
   ·exact⟨some (l,N),av,l,H,p,c,λl' s' e=>by cases e;exact⟨rfl,s,rfl,by omega,hd⟩⟩
   ·exact⟨none,av,ps,H,j,c,λl' s' e=>by cases e⟩
def FnN (w:World) (F:Nat) (nm:Tx) (vp:Value) (p:Bool) (vb:Value) (ln:Int):Prop:=w.heap[F]?=some (fnC nm vp p vb ln)
theorem FnN.chg (h:FnN w F nm vp p vb ln) (hc:Chg S w w') (hn:¬S F):FnN w' F nm vp p vb ln:=by
 unfold FnN at *;rw[hc.block _ (ab h) hn];exact h
theorem FnN.cell (h:FnN w F nm vp p vb ln) (j:Nat):w.cell? ⟨F,j,none⟩=#[.string ⟨nm.toArray⟩,vp,.bool p,vb,.int .i64 ln][j]?:=ae h j
theorem FnN.free (h:FnN w F nm vp p vb ln) (j:Nat):w.frozen? ⟨F,j,none⟩=false:=aD w F j _ _ h
structure FFr (w q:World) (P F FB:Nat) (o:Option PS):Prop where
 chg:Chg (·=P) w q
 po:PO q P o
 b:One q w.heap.size (pB P) 51
 fb:One q FB (pB F) 61
 l0:P<w.heap.size
 l1:w.heap.size<F
 l2:F<FB
theorem FFr.go {q':World} {o':Option PS} (h:FFr w q P F FB o) (hc:Chg (·=P) q q') (ho:PO q' P o'):FFr w q' P F FB o':=
 ⟨h.chg.then hc,ho,h.b.chg hc (by have:=h.l0;omega),h.fb.chg hc (by have:=h.l0;have:=h.l1;have:=h.l2;omega),h.l0,h.l1,h.l2⟩
theorem FFr.set (h:FFr w q P F FB o) (hn:FnN q F nm vp p vb ln) (j:Nat) (v:Value):FFr w (q.setCell ⟨F,j,none⟩ v) P F FB o:=by
 have a:=h.l0;have b:=h.l1;have c:=h.l2;exact⟨h.chg.setCell (p:=⟨F,j,none⟩) (λe=>absurd e (by show¬(F<w.heap.size);omega)) v,h.po.setOther hn (by decide) (by decide) (by omega) j v,h.b.setOther (p:=⟨F,j,none⟩) (by show F≠_;omega) v,h.fb.setOther (p:=⟨F,j,none⟩) (by show F≠_;omega) v,a,b,c⟩
theorem FFr.cs (h:FFr w q P F FB o):q.cell? ⟨w.heap.size,0,none⟩=some (pB P)/\q.cell? ⟨FB,0,none⟩=some (pB F):=⟨h.b.c,h.fb.c⟩
theorem FFr.nb (h:FFr w q P F FB o):¬F=w.heap.size:=by have:=h.l1;omega
theorem FFr.nx (h:FFr w q P F FB o):¬F=FB:=by have:=h.l2;omega
theorem FFr.cs1 (h:FFr w q P F FB o) (j:Nat) (v:Value):(q.setCell ⟨F,j,none⟩ v).cell? ⟨w.heap.size,0,none⟩=some (pB P)/\(q.setCell ⟨F,j,none⟩ v).cell? ⟨FB,0,none⟩=some (pB F):=
 ⟨gP (p:=⟨F,j,none⟩) h.b.c (by exact h.nb),gP (p:=⟨F,j,none⟩) h.fb.c (by exact h.nx)⟩
def fnK (n:Nat) (s1:PS):Option (Fun×PS):=(cR s1).bind λr=>(plK r.2 n).bind λl=>(dc n (cF cY l.2).2).bind λb=>some (⟨r.1,l.1,(cF cY l.2).1,b.1⟩,b.2)
theorem tu (w:World) (P:Nat) (s:PS) (h:PG w P s) (hN:s.ts.length+2<=1000000):
  Calls prog 17 #[pB P] w λe w'=>∃b q,e=.returned (pB b)/\w.heap.size<=b/\b<w'.heap.size/\Rd dl (some s) P w q w'/\∀f s',q=some (f,s')->ji w' (Ge w.heap.size) b f:=by
 have b2:=h.lt;have aF:=(J8 (s.ts.length) hN).2.1;have aM:=aa aF;have a0:Below w.heap.size w (w.alloc (.cells #[pB P] 51)):=az;obtain⟨ln,hh⟩:=(h.on a0).head;generalize aJ:w.alloc (.cells #[pB P] 51)=w1 at a0 hh;have a6:=aa (show One w1 w.heap.size (pB P) 51 by rw[<- aJ];exact af _ _);have HH:=aa hh;have aD:=aa a0;have b0:=a6.c;have bk:w.heap.size<w1.heap.size:=ab a6.out;clear hh a0 aF
 go_enter func17,ntmps17
 go_wp2_with fail;refine(cC w1 P _ _ _ _ ln HH.out).mono ?_;rintro e u ⟨rfl,hu⟩;have be:=hu.size;have HU:=aa (aD.trans (hu.mono aD.size));have aN:=aa (a6.below hu);clear hu aJ b0;have bc:=rE (.int .i64 (hd s).kind) (.string ⟨(hd s).text.toArray⟩) (.int .i64 ln) u;generalize a4:u.alloc (fnC [] bX false bX ln)=v1;generalize a5:v1.alloc (.cells #[pB u.heap.size] 61)=v2;have z1:v1.heap.size=u.heap.size+1:=by rw[<- a4];exact ah _ _
 have z2:v2.heap.size=u.heap.size+1+1:=by rw[<- a5,ah,z1]
 have e1:Below u.heap.size u v1:=by rw[<- a4];exact az
 have Z:Below v1.heap.size v1 v2:=by rw[<- a5];exact az
 have ag:=e1.trans (Z.mono (by omega));have HN:=aa (show FnN v2 u.heap.size [] bX false bX ln by unfold FnN;rw[Z.block _ (by omega),<- a4];exact af _ _);have aO:=aa (show One v2 (u.heap.size+1) (pB u.heap.size) 61 by rw[<- a5,<- z1];exact af _ _);have O:Below w.heap.size w v2:=HU.trans (ag.mono HU.size);have HF:=aa (show FFr w v2 P u.heap.size (u.heap.size+1) (some s) from⟨.of_below O,PG.on h O,aN.below ag,aO.out,b2,by omega,by omega⟩);clear e1 Z ag O;obtain⟨I,Y⟩:=HF.cs;go_wp2_with fail;refine(uL v2 P (some s) HF.po mh).mono ?_;rintro e y ⟨rfl,F,m⟩;obtain⟨J,an⟩:∃J,bP mh s=J:=⟨_,rfl⟩;have M:=aa an;have a7:=aa (HF.go F (show PO y P J by rw[<- an];exact m));have aQ:=aa (HN.chg F (by omega));clear F m an I Y a4 a5 bc;obtain⟨I,Y⟩:=a7.cs;obtain⟨nm,Q⟩:∃nm,nmO J=nm:=⟨_,rfl⟩;have aU:=aa Q;obtain⟨o2,ao⟩:∃o2,(J.bind cR).map (·.2)=o2:=⟨_,rfl⟩;have ad:=aa ao;have HC:Hid (Calls prog 60 #[pB P] y.drew λe q=>e=.returned (.string ⟨nm.toArray⟩)/\(q.cell? ⟨w.heap.size,0,none⟩=some (pB P)/\q.cell? ⟨u.heap.size+1,0,none⟩=some (pB u.heap.size)) /\
   (q.cell? ⟨u.heap.size,0,none⟩=some (.string ⟨#[]⟩)/\q.frozen? ⟨u.heap.size,0,none⟩=false)/\Hid (FFr w q P u.heap.size (u.heap.size+1) o2/\FnN q u.heap.size [] bX false bX ln)):=by
  refine(CD y.drew P J (a7.po.on (ai _ _).drew)).mono ?_;rintro e q ⟨rfl,F,m⟩;have d:Chg (·=P) y q:=(Chg.of_below (ai _ _).drew).then F;have a:=a7.go d (show PO q P o2 by rw[<- ao];exact m);have hn:=aQ.chg d (by omega);exact⟨by rw[Q],a.cs,⟨(hn.cell 0).trans rfl,hn.free 0⟩,a,hn⟩
 clear Q ao;go_wp2_with fail
 go_region_held3 (λw'=>w'.cell? ⟨w.heap.size,0,none⟩=some (pB P)/\w'.cell? ⟨u.heap.size+1,0,none⟩=some (pB u.heap.size))
  (first
   | (exact⟨I,Y⟩)
   | (exact⟨g0,g1⟩)
   | (exact B.out.1.cs1 _ _)
   | go_keep)
  (first
   | (go_at_call 60;refine HC.mono ?_;rintro e q ⟨rfl,⟨g0,g1⟩,⟨g2,g3⟩,B⟩))
 obtain⟨A,D⟩:=B.out;have a2:FnN (q.setCell ⟨u.heap.size,0,none⟩ (.string ⟨nm.toArray⟩)) u.heap.size nm bX false bX ln:=aA (j:=0) D _;have z:=A.set D 0 (.string ⟨nm.toArray⟩);clear B A D HC g0 g1 g2 g3 I Y;generalize b8:q.setCell ⟨u.heap.size,0,none⟩ (.string ⟨nm.toArray⟩)=q2 at a2 z;clear b8;have bf:=aa a2;have a8:=aa z;have I:=z.cs.1;have bd:=ab z.fb;have C:∀s',o2=some s'->s'.ts.length<=s.ts.length/\s'.d=s.d:=λs' e=>by
  have v:=ad.out;rw[e]at v;cases ho:J with
  | none=>rw[ho]at v;cases v
  | some c =>
   rw[ho,aj]at v;have E:=lH (show bP mh s=some c from M.trans ho);cases a:cR c with
   | none=>rw[a]at v;cases v
   | some r =>
    rw[a]at v;have x:=qH a;have h4:r.2=s':=aT v;rw[h4]at x;exact⟨by omega,x.2.trans E.2⟩
 have aP:=aa C;have aB:=aa (Iz q2 P w.heap.size (u.heap.size+1) u.heap.size nm o2 z.po (λs' e=>by have:=(C s' e).1;omega) z.b ⟨z.fb,⟨ln,a2⟩,bq _ _ _ _⟩ (by omega) (by omega) (by omega) (by omega) (by omega) (by omega) (by omega) (by omega));clear a2 z C;go_wp2_with fail;refine aB.mono ?_;rintro e r ⟨rfl,F,L,S,ps,aI,m,ak,G⟩;obtain⟨H,aG⟩:=ak.node;have bi:=F.size;have a9:=aa (show FFr w r P u.heap.size (u.heap.size+1) (L.map (·.2)) from⟨a8.chg.trans F λi hi q=>by omega,m,a8.b.chg F (by omega),a8.fb.chg F (by omega),by omega,by omega,by omega⟩);have aR:=aa (show FnN r u.heap.size nm S false bX H from aG);have aY:=aa ak.own;have aW:=aa aI;have ae:=aa G;clear F aI m ak G aG aB I;obtain⟨I,Y⟩:=a9.cs;obtain⟨T,ap⟩:∃T,L.map (·.2)=T:=⟨_,rfl⟩;have N:=aa ap;obtain⟨K,R⟩:∃K,isO cY T=K:=⟨_,rfl⟩;have aX:=aa R;have HC:Hid (Calls prog 63 #[pB P,.string ⟨#[112,116,114]⟩] r.drew λe q=>e=.returned (.bool K)/\(q.cell? ⟨w.heap.size,0,none⟩=some (pB P)/\q.cell? ⟨u.heap.size+1,0,none⟩=some (pB u.heap.size)) /\
   (q.cell? ⟨u.heap.size,2,none⟩=some (.bool false)/\q.frozen? ⟨u.heap.size,2,none⟩=false)/\Hid (FFr w q P u.heap.size (u.heap.size+1) (iO cY T)/\FnN q u.heap.size nm S false bX H/\q.ownsRow (q2.heap.size+2) 140 2 S ps.length (bE ps)/\r.heap.size<=q.heap.size)):=by
  refine(p9 r.drew P T ((show PO r P T by rw[<- ap];exact a9.po).on (ai _ _).drew) cY).mono ?_;rintro e q ⟨rfl,F,m⟩;have d:Chg (·=P) r q:=(Chg.of_below (ai _ _).drew).then F;have a:=a9.go d m;have hn:=aR.chg d (by omega);exact⟨by rw[R],a.cs,⟨(hn.cell 2).trans rfl,hn.free 2⟩,a,hn,fV aY.out (d.same λk hk e=>by omega),d.size⟩
 clear R ap;go_wp2_with fail
 go_region_held3 (λw'=>w'.cell? ⟨w.heap.size,0,none⟩=some (pB P)/\w'.cell? ⟨u.heap.size+1,0,none⟩=some (pB u.heap.size))
  (first
   | (exact⟨I,Y⟩)
   | (exact⟨g0,g1⟩)
   | (exact B.out.1.cs1 _ _)
   | go_keep)
  (first
   | (go_at_call 63;refine HC.mono ?_;rintro e q ⟨rfl,⟨g0,g1⟩,⟨g2,g3⟩,B⟩))
 obtain⟨A,D,aK,bj⟩:=B.out;have al:FnN (q.setCell ⟨u.heap.size,2,none⟩ (.bool K)) u.heap.size nm S K bX H:=aA (j:=2) D _;have a1:=A.set D 2 (.bool K);have aq:(q.setCell ⟨u.heap.size,2,none⟩ (.bool K)).ownsRow (q2.heap.size+2) 140 2 S ps.length (bE ps):=bg aK (show u.heap.size<q2.heap.size+2 by omega) _;have bb:q.heap.size<=(q.setCell ⟨u.heap.size,2,none⟩ (.bool K)).heap.size:=by simp[World.setCell]
 clear B A D aK HC g0 g1 g2 g3 I Y;generalize b9:q.setCell ⟨u.heap.size,2,none⟩ (.bool K)=q4 at al a1 aq bb;clear b9;have aS:=aa al;have ar:=aa a1;have aZ:=aa aq;obtain⟨I,Y⟩:=a1.cs;have au:Hid (∀s',iO cY T=some s'->s'.ts.length<=s.ts.length/\s'.d=s.d):=λs' e=>by
  cases a:L with
  | none=>have x:=N.out;rw[a]at x;subst x;cases e
  | some l =>
   have x:=N.out;rw[a]at x;subst x;obtain⟨_,s2,Z,bh,b4⟩:=ae.out l.1 l.2 a;have h5:=aP.out s2 Z;have h6:=nt cY l.2;have e':(cF cY l.2).2=s':=aT e;rw[e']at h6;exact⟨by omega,h6.2.trans (b4.trans h5.2)⟩
 have HC:Hid (Calls prog 64 #[pB P] q4.drew λe t=>∃V X W,e=.returned (.slice V X W)/\(t.cell? ⟨w.heap.size,0,none⟩=some (pB P)/\t.cell? ⟨u.heap.size+1,0,none⟩=some (pB u.heap.size)) /\
   (t.cell? ⟨u.heap.size,3,none⟩=some bX/\t.frozen? ⟨u.heap.size,3,none⟩=false)/\Hid (∃U,Out (λn=>(iO cY T).bind (dc n)) U/\FFr w t P u.heap.size (u.heap.size+1) (U.map (·.2))/\FnN t u.heap.size nm S K bX H/\t.ownsRow (q2.heap.size+2) 140 2 S ps.length (bE ps) /\
    ∀l s',U=some (l,s')->jU t (Ge (u.heap.size+1)) (.slice V X W) l/\∃s0,iO cY T=some s0/\s'.ts.length+1<=s0.ts.length/\s'.d=s0.d)):=by
  refine(aM.out q4.drew P (iO cY T) (ar.po.on (ai _ _).drew) (λs' e=>(au.out s' e).1)).mono ?_;rintro e t ⟨V,X,W,U,rfl,B,a3⟩;have d:Chg (·=P) q4 t:=(Chg.of_below (ai _ _).drew).then B.chg;have a:=ar.go d B.st;have hn:=aS.chg d (by omega);exact⟨V,X,W,rfl,a.cs,⟨(hn.cell 3).trans rfl,hn.free 3⟩,U,B.out,a,hn,fV aZ.out (d.same λk hk e=>by omega),λl s' e=>⟨(a3 l s' e).weak λk _ hk=>ay (show u.heap.size+1<=q4.heap.size by omega) hk,B.len l s' e⟩⟩
 clear al a1 aq;go_wp2_with fail
 go_region_held3 (λw'=>w'.cell? ⟨w.heap.size,0,none⟩=some (pB P)/\w'.cell? ⟨u.heap.size+1,0,none⟩=some (pB u.heap.size))
  (first
   | (exact⟨I,Y⟩)
   | (exact⟨g0,g1⟩)
   | (exact B.out.choose_spec.2.1.cs1 _ _)
   | go_keep)
  (first
   | (go_at_call 64;refine HC.mono ?_;rintro e t ⟨V,X,W,rfl,⟨g0,g1⟩,⟨g2,g3⟩,B⟩))
 obtain⟨U,aH,A,am,aL,a3⟩:=B.out;have aw:=aa (show FnN (t.setCell ⟨u.heap.size,3,none⟩ (.slice V X W)) u.heap.size nm S K (.slice V X W) H from aA (j:=3) am _);have ac:=aa (A.set am 3 (.slice V X W));have aE:=aa (show(t.setCell ⟨u.heap.size,3,none⟩ (.slice V X W)).ownsRow (q2.heap.size+2) 140 2 S ps.length (bE ps) from bg aL (show u.heap.size<q2.heap.size+2 by omega) _);have aC:=aa a3;have ax:=aa aH;have x1:=ac.cs.2;clear B A am aL a3 aH HC g0 g1 g2 g3 I Y;go_wp2_with fail;go_ret;refine⟨u.heap.size,(bP mh s).bind λc=>(cR c).bind λr=>L.bind λl=>U.map λb=>(⟨r.1,l.1,(cF cY l.2).1,b.1⟩,b.2),rfl,by omega,ab aw.out,⟨ac.chg,?_,?_,?_⟩,?_⟩
 ·show Out (λn=>(bP mh s).bind (fnK n)) _
  have E:=M.out;cases ho:J with
  | none=>rw[ho]at E;rw[E];exact Out.const none
  | some c =>
   rw[ho]at E;rw[E];show Out (λn=>(cR c).bind λr=>(plK r.2 n).bind λl=>(dc n (cF cY l.2).2).bind λb=>some ((⟨r.1,l.1,(cF cY l.2).1,b.1⟩:Fun),b.2)) ((cR c).bind _);cases a:cR c with
   | none=>exact Out.const none
   | some r0 =>
    have v:=ad.out;rw[ho,aj,a]at v;subst v;show Out (λn=>(plK r0.2 n).bind λl=>(dc n (cF cY l.2).2).bind λb=>some ((⟨r0.1,l.1,(cF cY l.2).1,b.1⟩:Fun),b.2)) (L.bind _);refine Out.bindO (f:=λn=>plK r0.2 n) (g:=λn l=>(dc n (cF cY l.2).2).bind λb=>some ((⟨r0.1,l.1,(cF cY l.2).1,b.1⟩:Fun),b.2)) (Fp r0.2) (λl n q h=>bJ h (λ_ e=>(kH n).1 _ _ e) λ_ _ e=>e) aW.out ?_;cases G:L with
    | none=>exact Out.const none
    | some l =>
     have x:=N.out;rw[G]at x;subst x;exact Out.map ax.out λb=>((⟨r0.1,l.1,(cF cY l.2).1,b.1⟩:Fun),b.2)
 ·have h5:=ac.po
  have E:=M.out;have v:=ad.out;have x:=N.out;have G:∀l,L=some l->∃c r,J=some c/\cR c=some r:=λl e=>by
   obtain⟨_,s2,Z,_⟩:=ae.out l.1 l.2 e;rw[Z]at v;cases ho:J with
   | none=>rw[ho]at v;cases v
   | some c =>
    rw[ho,aj]at v;cases a:cR c with
    | none=>rw[a]at v;cases v
    | some r=>exact⟨c,r,rfl,a⟩
  cases hqb:U with
  | none =>
   rw[hqb]at h5;have e:((bP mh s).bind λc=>(cR c).bind λr=>L.bind λl=>(none:Option (List Sm×PS)).map λb=>((⟨r.1,l.1,(cF cY l.2).1,b.1⟩:Fun),b.2))=none:=by
    cases bP mh s with
    | none=>rfl
    | some c=>show(cR c).bind _=none;cases cR c with
     | none=>rfl
     | some r=>cases L<;>rfl
   rw[e];exact h5
  | some b =>
   cases hl:L with
   | none =>
    rw[hl]at x;subst x;have:=Out.of_none ax.out;rw[hqb]at this;cases this
   | some l =>
    obtain⟨c,r,e1,Z⟩:=G l hl;rw[hqb]at h5;rw[E,e1];show PO _ P (((cR c).bind _).map _);rw[Z];exact h5
 ·intro f s' e
  have E:=M.out;cases ho:J with
  | none=>rw[E,ho]at e;cases e
  | some c =>
   rw[E,ho,aj]at e;cases a:cR c with
   | none=>rw[a]at e;cases e
   | some r =>
    rw[a,aj]at e;cases hl:L with
    | none=>rw[hl]at e;cases e
    | some l =>
     rw[hl,aj]at e;cases hb:U with
     | none=>rw[hb]at e;cases e
     | some b =>
      rw[hb]at e;cases e;obtain⟨_,s0,e0,b5,b3⟩:=aC.out b.1 b.2 hb;have h4:=au.out s0 e0;exact⟨s,rfl,by have:b.2.ts.length+1<=s0.ts.length:=b5;show b.2.ts.length+1<=s.ts.length;omega,b3.trans h4.2⟩
 ·intro f s' e
  have E:=M.out;cases ho:J with
  | none=>rw[E,ho]at e;cases e
  | some c =>
   rw[E,ho,aj]at e;cases a:cR c with
   | none=>rw[a]at e;cases e
   | some r =>
    rw[a,aj]at e;cases hl:L with
    | none=>rw[hl]at e;cases e
    | some l =>
     rw[hl,aj]at e;cases hb:U with
     | none=>rw[hb]at e;cases e
     | some b =>
      rw[hb]at e;cases e;have Q:nm=r.1:=by rw[<- aU.out,ho];unfold nmO;rw[aj,a]
      have x:=N.out;rw[hl]at x;subst x;have R:K=(cF cY l.2).1:=by rw[<- aX.out,nu];rfl
      have b7:ps=l.1:=(ae.out l.1 l.2 hl).1;subst Q R b7;obtain⟨bs,b6,ba⟩:=((aC.out b.1 b.2 hb).1.on (λk o hk ho=>bA.setCell t (p:=⟨u.heap.size,3,none⟩) (lo:=u.heap.size+1) (cI _) (.slice V X W) k o hk ho)).weak (A':=Ge w.heap.size) λk _ hk=>ay (by omega) hk;exact⟨by show w.heap.size<=_;omega,H,S,_,bs,aw.out,⟨kD aE.out (aV _),λg hg=>by have:=cG aE.out g hg;show w.heap.size<=g;omega⟩,b6,ba⟩
theorem Tryz.info61:(Tryz.prog.info? 61).map (λi=>(i.zero,i.size,i.bytes))=some (some (.pointer none),1,8):=by kernel_rfl
structure PrAt (w:World) (X lo:Nat) (av:Value) (bs:List Nat):Prop where
 box:One w X av 57
 own:w.ownsRow lo 61 1 av bs.length (bs.map pB)
def PrG (X lo:Nat) (w:World) (l:List Fun):Prop:=∃av bs,PrAt w X lo av bs/\dV w (λk=>lo<=k/\av.ownBlock≠some k) bs l/\bs.length=l.length
def PrB (X lo:Nat) (w:World):Prop:=∃av bs,PrAt w X lo av bs
theorem PrAt.chg (h:PrAt w X lo av bs) (hc:Chg S w w') (h1:¬S X) (h2:∀k,lo<=k->¬S k):PrAt w' X lo av bs:=
 ⟨h.box.chg hc h1,fV h.own (hc.same h2)⟩
theorem PrG.chg (h:PrG X lo w l) (hc:Chg S w w') (h1:¬S X) (h2:∀k,lo<=k->¬S k):PrG X lo w' l:=by
 obtain⟨a,b,h,d,c⟩:=h;exact⟨a,b,h.chg hc h1 h2,d.onA (hc.sameOn λk hk=>h2 k hk.1),c⟩
theorem PrB.chg (h:PrB X lo w) (hc:Chg S w w') (h1:¬S X) (h2:∀k,lo<=k->¬S k):PrB X lo w':=by
 obtain⟨a,b,h⟩:=h;exact⟨a,b,h.chg hc h1 h2⟩
theorem PrAt.app (hc:PrAt q X lo av bs) (hg:(q.alloc (.cells #[pB eb] 61)).grownBy w1 av.ownBlock)
 (hown:w1.ownsRow lo 61 1 (.slice (some ⟨gg,0,none⟩) (bs.length+1) cap) (bs.length+1) (bs.map pB++[pB eb])) (h1:X<lo):
  PrAt (w1.setCell ⟨X,0,none⟩ (.slice (some ⟨gg,0,none⟩) (bs.length+1) cap)) X lo (.slice (some ⟨gg,0,none⟩) (bs.length+1) cap) (bs++[eb]):=by
 have a:One w1 X av 57:=fY hc.own hg hc.box h1;refine⟨iw a,?_⟩;rw[ac,dT];exact bg hown (show X<lo from h1) _
theorem PrG.app {x:Fun} (hX:dV v (λk=>lo<=k/\av.ownBlock≠some k) bs l) (hbl:bs.length=l.length) (hav:v.ownsRow lo 61 1 av bs.length (bs.map pB)) (hch:Chg (·=P) v q) (hx:ji q (Ge v.heap.size) eb x) (hc:PrAt q X lo av bs)
 (hg:(q.alloc (.cells #[pB eb] 61)).grownBy w1 av.ownBlock) (hown:w1.ownsRow lo 61 1 (.slice (some ⟨gg,0,none⟩) (bs.length+1) cap) (bs.length+1) (bs.map pB++[pB eb])) (hat:av.ownBlock=some gg\/gg=q.heap.size+1) (h1:X<lo) (hlo:P<lo) (hlv:lo<=v.heap.size):
  PrG X lo (w1.setCell ⟨X,0,none⟩ (.slice (some ⟨gg,0,none⟩) (bs.length+1) cap)) (l++[x]):=by
 refine⟨_,bs++[eb],hc.app hg hown h1,?_,by simp[hbl]⟩;have m:aX (λk=>lo<=k/\k≠gg/\av.ownBlock≠some k/\k<q.heap.size) q (w1.setCell ⟨X,0,none⟩ (.slice (some ⟨gg,0,none⟩) (bs.length+1) cap)):=λk o ⟨k1,k2,k3,k4⟩ hk=>by
  rw[aM _ _ _ _ (show k≠X by omega),hg.block k (by simp;omega) (iq k3),aK _ _ _ k4];exact hk
 have b:dV q (λk=>lo<=k/\av.ownBlock≠some k) bs l:=dV.onA (hch.sameOn λk hk e=>by have:=hk.1;omega) hX;have c:dV q (λk=>lo<=k/\k≠gg/\av.ownBlock≠some k/\k<q.heap.size) bs l:=b.weak λk hk ⟨h,h'⟩=>⟨h,λe=>by
  subst e;rcases hat with e|e
  ·exact h' e
  ·omega,h',hk⟩
 have d:ji q (λk=>lo<=k/\k≠gg/\av.ownBlock≠some k/\k<q.heap.size) eb x:=hx.weak λk hk h=>by
  have j:v.heap.size<=k:=h;have a:av.ownBlock≠some k:=λe=>by obtain⟨g,n,i⟩:=bG hav e;have:=ab i;omega
  refine⟨by omega,λe=>?_,a,hk⟩;subst e;rcases hat with e|e
  ·exact a e
  ·omega
 have f:=dV.onA m (c.snoc d);exact f.weak λk _ ⟨k1,k2,_⟩=>⟨k1,λe=>k2 (by simp only[Value.ownBlock,aq]at e;exact e.symm)⟩
theorem PO.appF (h:PO q P o) (hc:PrAt q X lo av bs) (hg:(q.alloc (.cells #[pB eb] 61)).grownBy w1 av.ownBlock) (hPX:P<X) (h1:X<lo):
  PO (w1.setCell ⟨X,0,none⟩ (.slice (some ⟨gg,0,none⟩) (bs.length+1) cap)) P o:=by
 have a:(q.alloc (.cells #[pB eb] 61)).ownsRow lo 61 1 av bs.length (bs.map pB):=hc.own.alloc _;have b:One w1 X av 57:=fY hc.own hg hc.box h1;have c:=h.on ((ai q.heap.size q).alloc (ag _) (.cells #[pB eb] 61));refine PO.setOther ?_ b (by decide) (by decide) hPX 0 _;cases o with
 | some s=>exact PG.grown c a (by decide) (by omega) hg
 | none=>exact PB.grown c a (by decide) (by decide) (by omega) hg
def Lv (R:Nat->World->Prop) (X lo:Nat) (av:Value) (bs:List Nat) (w':World):Prop:=
 ∃eb q w1 gg cap,R eb q/\PrAt q X lo av bs/\(q.alloc (.cells #[pB eb] 61)).grownBy w1 av.ownBlock /\
  w1.ownsRow lo 61 1 (.slice (some ⟨gg,0,none⟩) (bs.length+1) cap) (bs.length+1) (bs.map pB++[pB eb])/\(av.ownBlock=some gg\/gg=q.heap.size+1)/\w'=w1.setCell ⟨X,0,none⟩ (.slice (some ⟨gg,0,none⟩) (bs.length+1) cap)
def vU (P X lo:Nat) (u:World) (s0:PS) (wr:World):Prop:=
 Chg (λk=>k=P\/k=X\/lo<=k) u wr/\((∃s l,PG wr P s/\PrG X lo wr l/\l.length+s.ts.length<=s0.ts.length/\s.d=s0.d/\∀r,Out (λn=>gr n l s) r->Out (λn=>gr n [] s0) r)\/(PB wr P/\PrB X lo wr/\Out (λn=>gr n [] s0) none))
theorem Cc (h:(hd s).kind=5):Out (λn=>gr n l s) (some l):=⟨1,by show gr (0+1) l s=_;rw[gr,ax h]⟩
theorem Ce (h:(hd s).kind≠5) (n:Nat):gr (n+1) l s=(dl n s).bind λr=>gr n (l++[r.1]) r.2:=by
 rw[gr,ap h]
theorem vU.round {s0:PS} (hc:Chg (λk=>k=P\/k=X\/lo<=k) u v) (hX:dV v (λk=>lo<=k/\av.ownBlock≠some k) bs l) (hbl:bs.length=l.length) (hav:v.ownsRow lo 61 1 av bs.length (bs.map pB))
 (hlen:l.length+s.ts.length<=s0.ts.length) (hd':s.d=s0.d) (hw:(hd s).kind≠5) (hout:∀r,Out (λn=>gr n l s) r->Out (λn=>gr n [] s0) r) (hPX:P<X) (h1:X<lo) (hlv:lo<=v.heap.size)
 (h:Lv (λeb q=>∃r,Rd dl (some s) P v r q/\∀x s',r=some (x,s')->ji q (Ge v.heap.size) eb x) X lo av bs w'):vU P X lo u s0 w'/\muP P w'<=s.ts.length:=by
 obtain⟨eb,q,B,gg,cap,⟨r,c,A⟩,a,w,b,y,rfl⟩:=h;have C:Chg (λk=>k=P\/k=X\/lo<=k) u (B.setCell ⟨X,0,none⟩ (.slice (some ⟨gg,0,none⟩) (bs.length+1) cap)):=
  hc.then (((((c.chg.mono (S':=λk=>k=P\/k=X\/lo<=k) λi _ e=>.inl e)).alloc _).grown w λk hk _=>.inr (.inr (cG a.own k hk))).setCell (λ_=>.inr (.inl rfl)) _)
 have p:=c.st.appF (cap:=cap) (gg:=gg) a w hPX h1;cases r with
 | none =>
  have j:PB (B.setCell ⟨X,0,none⟩ (.slice (some ⟨gg,0,none⟩) (bs.length+1) cap)) P:=p;exact⟨⟨C,.inr ⟨j,⟨_,_,a.app w b h1⟩,hout none (Out.stepN (f:=λn=>dl n s) (g:=λn r=>gr n (l++[r.1]) r.2) rfl (λn=>Ce hw n) c.out)⟩⟩,by rw[j.mu];omega⟩
 | some r =>
  obtain⟨x,t⟩:=r;have m:PG (B.setCell ⟨X,0,none⟩ (.slice (some ⟨gg,0,none⟩) (bs.length+1) cap)) P t:=p;obtain⟨s',e,D,z⟩:=c.len x t rfl;cases e;refine⟨⟨C,.inl ⟨t,l++[x],m,PrG.app hX hbl hav c.chg (A x t rfl) a w b y h1 (by omega) hlv,by simp;omega,z.trans hd',λo ho=>hout o (Out.step (f:=λn=>dl n s) (g:=λn r=>gr n (l++[r.1]) r.2) (sX s) (uM (l++[x]) t) rfl (λn=>Ce hw n) c.out o ho)⟩⟩,by rw[m.mu];omega⟩
def pm (w:World) (A:Nat->Prop) (b:Nat) (fs:List Fun):Prop:=A b/\∃v bs,w.heap[b]?=some (.cells #[v] 57 (0,0))/\li w A 61 v bs.length (bs.map pB)/\dV w A bs fs
theorem pm.onA (h:pm w A b fs) (hs:aX A w w'):pm w' A b fs:=by
 obtain⟨a,v,c,hn,e,d⟩:=h;exact⟨a,v,c,hs _ _ a hn,e.on hs,d.onA hs⟩
theorem pm.weak {A':Nat->Prop} (h:pm w A b fs) (hs:∀k,k<w.heap.size->A k->A' k):pm w A' b fs:=by
 obtain⟨c,v,a,hn,e,d⟩:=h;exact⟨hs _ (ab hn) c,v,a,hn,e.weak hs,d.weak hs⟩
def dU (l:Tx) (q:Option (List Fun)):Prop:=match gI l with|none=>q=none|some ts=>Out (λn=>gr n [] ⟨ts,0⟩) q
def Gj (l:Tx) (w:World) (e:Ending) (w':World):Prop:=
 Below w.heap.size w w'/\∃q,dU l q/\match q with
  | none=>∃f,e=.returned (.tuple #[.pointer none,.iface 52 (pB f)])/\jV w' f
  | some fs=>∃b,e=.returned (.tuple #[pB b,.nilIface])/\pm w' (Ge w.heap.size) b fs
theorem zP (a b c:Value) (w:World):(Instr.field 59 (.agg #[a,b,c]) 0).run prog w=.ok a w:=by kernel_rfl
theorem oF (w0 w:World) (h:Below w0.heap.size w0 w) (ht:Tabs w0) (l:Tx) (hl:l.length<=1000000):
  Calls prog 5 #[.string ⟨l.toArray⟩] w (Gj l w):=by
 go_enter func5,ntmps5
 go_wp2_with fail;refine(zO w0 w h ht l hl).mono ?_;obtain⟨o,ho⟩:∃o,gI l=o:=⟨_,rfl⟩;rw[ho];have HO:=aa ho;clear ho;cases o with
 | none =>
  rintro e u ⟨I,b,rfl,hf⟩;go_wp2_with fail;go_ret2;exact⟨I,none,by unfold dU;rw[HO.out],b,rfl,hf⟩
 | some ts =>
  rintro e u ⟨I,v,Q,rfl,R,D⟩;obtain⟨aj,X,C,aJ⟩:=ui HO.out;have P:Q.length=ts.length:=by rw[<- R];simp
  have aG:1<=Q.length:=by rw[P];exact bc.2 X
  rcases D.2 with⟨_,h0⟩|⟨g,m,aw,rfl,hg,F,ac,_,_,_⟩
  ·omega
  have ag:g<u.heap.size:=ab F;generalize E:u.alloc (.cells #[.slice (some ⟨g,0,none⟩) Q.length m,.int .i64 0,.pointer none] 54)=v1;generalize M:v1.alloc (.cells #[.slice none 0 0] 57)=v2;have z1:v1.heap.size=u.heap.size+1:=by rw[<- E];exact ah _ _
  have z2:v2.heap.size=u.heap.size+1+1:=by rw[<- M,ah,z1]
  have e1:Below u.heap.size u v1:=by rw[<- E];exact az
  have e2:Below v1.heap.size v1 v2:=by rw[<- M];exact az
  have A:=e1.trans (e2.mono (by omega));have a7:v2.heap[u.heap.size]?=some (.cells #[.slice (some ⟨g,0,none⟩) Q.length m,.int .i64 0,.pointer none] 54 (0,0)):=by rw[e2.block _ (by omega),<- E];exact af _ _
  have a6:One v2 (u.heap.size+1) (.slice none 0 0) 57:=by rw[<- M,<- z1];exact af _ _
  have ar:Hid (PG v2 u.heap.size ⟨ts,0⟩):=by
   refine⟨⟨g,0,m,Q,a7,R,ac,by omega,λj x hj=>?_,aw,(0,0),by rw[A.block g ag];exact F⟩,X,C,aj,by show 0<=64;omega,w0,ht,by have:=h.size;have:=I.size;omega,(h.trans (I.mono h.size)).trans (A.mono (by have:=h.size;have:=I.size;omega))⟩;have aA:j<Q.length*3:=by
    rcases gG j (Q.length*3)with q|q
    ·exact q
    ·rw[rz (by rw[jp];exact q)]at hj;cases hj
   rw[A.cell (p:=⟨g,0+j,none⟩) ag,cA];exact(D.cellAt j aA).trans hj
  have a2:Hid (PrG (u.heap.size+1) (u.heap.size+1+1) v2 []):=⟨.slice none 0 0,[],⟨a6,bq _ _ _ _⟩,trivial,rfl⟩;have an:=aa (show Below w.heap.size w v2 from I.trans (A.mono I.size));have aT:=I.size;have a5:=aa (show vU u.heap.size (u.heap.size+1) (u.heap.size+1+1) v2 ⟨ts,0⟩ v2 from⟨Chg.refl _ _,.inl ⟨⟨ts,0⟩,[],ar.out,a2.out,by simp,rfl,λr h=>h⟩⟩);have N:Hid (∀wr,Chg (λk=>k=u.heap.size\/k=u.heap.size+1\/u.heap.size+1+1<=k) v2 wr->Below w.heap.size w wr):=λwr J =>
   an.trans ⟨J.os,J.tape,J.output,J.size,λk U=>J.block k (by omega) (by omega)⟩
  have O:Hid (∀q,Out (λn=>gr n [] ⟨ts,0⟩) q->dU l q):=λq hq=>by unfold dU;rw[HO.out];exact hq
  clear D F R aj X C a7 a6 e1 e2 A I P;obtain⟨i0,hi,aD,aE,aF⟩:=cX Tryz.info61;go_wp2_with fail;clear E M
  go_loopw [] (λwr=>Hid (vU u.heap.size (u.heap.size+1) (u.heap.size+1+1) v2 ⟨ts,0⟩ wr)) (λwr=>muP u.heap.size wr)
  case atStart=>exact a5
  case round =>
   clear a5;obtain⟨J,T⟩:=hrel.out;clear hrel;have HC:=aa J;have aS:=J.size;clear J;rcases T with⟨s,fs,L,c,ae,ay,a⟩|⟨Z,c,a⟩
   ·have HP:=aa L
    have HK:=aa c;have H:=aa a;have aq:=aa L.mu;have aI:fs.length+s.ts.length<=ts.length:=ae;obtain⟨n,F⟩:=L.head;obtain⟨kd,W⟩:∃kd,(hd s).kind=kd:=⟨_,rfl⟩;rw[W]at F;have HH:=aa F;have a1:=aa W;clear L c a F W;go_wp2_with fail;refine(jC wr u.heap.size (some s) HP.out).mono ?_;rintro e z ⟨rfl,rfl⟩;go_wp2_with fail;refine(cC wr u.heap.size _ _ kd _ n HH.out).mono ?_;rintro e y ⟨rfl,hy⟩;have HY:=aa hy;have aO:=zP (.int .i64 kd) (.string ⟨(hd s).text.toArray⟩) (.int .i64 n) y;clear hy;have a3:=aa (HP.on HY.out);have a0:=aa (HC.on HY.out)
    by_cases hk5:kd=5
    ·subst hk5
     go_wp2_with fail;refine(jC y u.heap.size (some s) a3.out).mono ?_;rintro e z ⟨rfl,rfl⟩;go_wp2_with fail;go_ret2;refine⟨N.out _ a0.out,some fs,O.out _ (H.out _ (Cc a1.out)),u.heap.size+1,rfl,by show w.heap.size<=_;omega,?_⟩;obtain⟨av,bs,U,K,_⟩:=HK.chg (Chg.of_below (S:=λ_=>False) HY.out) id λ_ _=>id;exact⟨av,bs,U.box,⟨kD U.own (aV _),λg hg=>by have:=cG U.own g hg;show w.heap.size<=g;omega⟩,K.weak λk _ U=>by have:=U.1;show w.heap.size<=k;omega⟩
    ·have aR:(kd==5)=false:=by simpa using hk5
     have ap:=aa (show(hd s).kind≠5 by rw[a1.out];exact hk5);obtain⟨av,bs,c,K,a8⟩:=HK.out;have G:=aa (c.chg (Chg.of_below (S:=λ_=>False) HY.out) id λ_ _=>id);have au:=aa (dV.onA (aX.below HY.out) K);have am:=aa a8;have aN:bs.length<=1000000:=by omega
     have x1:=G.box.c;have aB:u.heap.size+1+1<=y.heap.size:=ab G.box;clear c K a8 hk5;have hE:Hid (Calls prog 17 #[pB u.heap.size] y.drew λe q=>∃eb,e=.returned (pB eb)/\q.cell? ⟨u.heap.size+1,0,none⟩=some av/\Hid (∃r,Rd dl (some s) u.heap.size y r q/\∀x s',r=some (x,s')->ji q (Ge y.heap.size) eb x)/\Hid (PrAt q (u.heap.size+1) (u.heap.size+1+1) av bs)/\u.heap.size+1+1<=q.heap.size):=by
      refine(tu y.drew u.heap.size s (a3.on (ai _ _).drew) (by omega)).mono ?_;rintro e q ⟨b,r,rfl,aL,aM,hr,aC⟩;have a9:Chg (·=u.heap.size) y q:=(Chg.of_below (ai _ _).drew).then hr.chg;have V:=G.chg a9 (by omega) (λk U=>by omega);exact⟨b,rfl,V.box.c,⟨r,⟨a9,hr.out,hr.st,hr.len⟩,aC⟩,V,ab V.box⟩
     have E:=aH x1;go_wp2_with fail
     go_region_law (first
      | (go_simp;go_at_call 17;refine hE.out.mono ?_;rintro e q ⟨eb,rfl,g0,ak,B,aK⟩;have aQ:=aH g0)
      | (refine step_append_lies _ (by rfl) _ _ _ (by rfl) (u.heap.size+1+1) 61 i0 _ 1 8 underlying55 hi aD aE aF rfl (by omega) av bs.length (bs.map pB) (by rfl) (B.out.own.alloc _) ⟨q.heap.size,0,none⟩ 1 1 [pB eb] (by rfl) (by rfl) (eu q _ _) (by simp[Value.oneCell']) (by omega) (by unfold maxLen;omega) (by omega) (by simp;omega) (q.heap.size+1) (by simp) ?_;intro gg m w1 Y i ax aP;have k0:=me B.out.own i g0 (by show u.heap.size+1<u.heap.size+1+1;omega);have kf:w1.frozen? ⟨u.heap.size+1,0,none⟩=false:=dm (show One w1 (u.heap.size+1) av 57 from fY B.out.own i B.out.box (by omega))))
     all_goals
      have a4:=aa (vU.round a0.out au.out am.out G.own ae ay ap.out H.out (by omega) (by omega) aB ⟨eb,q,w1,gg,m,ak.out,B.out,i,Y,ax,rfl⟩);go_simp;go_wp2_with fail
      go_roundw
      case rel=>exact a4.out.1
      case measure=>rw[aq.out];exact oU a4.out.2 (by omega)
   ·have HP:=aa Z
    have H:=aa a;obtain⟨d,f,k,t,n,F,hf,ad⟩:=Z.ex;have p2:=F.c2;have ao:=aa ad;clear Z c a F ad;go_wp2_with fail;refine(jC wr u.heap.size none HP.out).mono ?_;rintro e z ⟨rfl,rfl⟩;go_wp2_with fail;refine(jC wr u.heap.size none HP.out).mono ?_;rintro e z ⟨rfl,rfl⟩;go_wp2_with fail
    go_region_held3 (λw'=>w'.cell? ⟨u.heap.size,2,none⟩=some (pB f)) (first|(exact p2)|go_keep) (fail)
    all_goals
     go_wp2_with fail;go_ret2;exact⟨N.out _ HC.drew,none,O.out _ H.out,f,rfl,ao.on (ai _ _).drew⟩
theorem Out.det {α:Type} {f:Nat->Option α} (h:ld f) {q r:Option α} (hq:Out f q) (hr:Out f r):q=r:=by
 cases q with
 | none =>
  cases r with
  | none=>rfl
  | some b=>obtain⟨n,hn⟩:=hr;exact absurd ((hq n).symm.trans hn) (by simp)
 | some a =>
  obtain⟨n,hn⟩:=hq;cases r with
  | none=>exact absurd ((hr n).symm.trans hn) (by simp)
  | some b=>obtain⟨m,c⟩:=hr;rw[h.det hn c]
theorem dU.det {l:Tx} {q r:Option (List Fun)} (hq:dU l q) (hr:dU l r):q=r:=by
 unfold dU at hq hr;cases ht:gI l with
 | none=>rw[ht]at hq hr;rw[hq,hr]
 | some ts=>rw[ht]at hq hr;exact Out.det (uM _ _) hq hr
theorem dU.fun {l:Tx} (h:dU l (some fs)):(∀f∈fs,FunP f)/\fs.length<=32769:=by
 unfold dU at h;cases ht:gI l with
 | none=>rw[ht]at h;cases h
 | some ts=>rw[ht]at h;obtain⟨n,hn⟩:=h;exact Ff ht hn
theorem dU.bd {l:Tx} (h:dU l (some fs)):(eL fs).length<=50000000000:=by
 have c:=h.fun;unfold dU at h;cases ht:gI l with
 | none=>rw[ht]at h;cases h
 | some ts =>
  rw[ht]at h;obtain⟨n,hn⟩:=h;have a:=p8 ht;have b:=wN n [] ⟨ts,0⟩ fs a.1 hn;have e:tW []=0:=rfl;have d:=a.2;have f:=Cf fs c.1 (by simp only at b;omega);simp only at b;omega
theorem Df:∀{l:List Fun} {f:Fun},f∈l->fSz f<=tW l
 | [],_,h=>by cases h
 | g::l,f,h=>by
  have e:tW (g::l)=fSz g+tW l:=by unfold tW;simp
  rw[e];rcases aR.1 h with rfl|h
  ·omega
  ·have:=Df h;omega
theorem dU.sz {l:Tx} (h:dU l (some fs)):∀f∈fs,f.params.length<=32769/\bL f.body<=32769:=by
 unfold dU at h;cases ht:gI l with
 | none=>rw[ht]at h;cases h
 | some ts =>
  rw[ht]at h;obtain⟨n,hn⟩:=h;have a:=p8 ht;have d:=wN n [] ⟨ts,0⟩ fs a.1 hn;have e:tW []=0:=rfl;have c:=a.2;simp only at d;intro f b;have:=Df b;unfold fSz at this;omega
end Go.Proofs.YtbeaaimcpkogcaaGreatDoor
