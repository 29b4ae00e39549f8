/- Lemmas on the way to the claim. -/
import Derived.Test.YtbeaaimcpkogcaaGreatDoorM55
set_option linter.unusedSimpArgs false
set_option linter.unusedVariables false
set_option maxHeartbeats 40000000
set_option maxRecDepth 100000
namespace Go.Proofs.YtbeaaimcpkogcaaGreatDoor
open Go.Proofs.Tryz Go.RowKit
variable {v w wc:World} {D K c lo lo0 off pages st:Nat} {d:DP} {T:Tx} {n:Int} {gs ws:List Int}
abbrev v6:Value:=.slice none 0 0
structure DecS (w:World) (K:Nat) (d:DP) (T:Tx) (off:Nat) (v:World):Prop where
 b:Below w.heap.size w v
 res:v.heap[K]?=some (.cells z7 37 (0,0))
 s:DSt v d T off
structure DecK (w:World) (K:Nat) (d:DP) (lo:Nat):Prop where
 ok:d.ok lo
 k:K<lo
 kR:¬K=d.R
 k5:¬K=d.p5
 w0:w.heap.size<=K
 wR:w.heap.size<=d.R
 w5:w.heap.size<=d.p5
def vY (w:World) (K:Nat) (d:DP) (T:Tx) (lo off:Nat) (v:World):Prop:=DecS w K d T off v/\lo<=v.heap.size
def sq (w:World) (K:Nat) (d:DP) (T:Tx) (lo off D:Nat) (v:World):Prop:=DecS w K d T off v/\lo<=D/\v.heap[D]?=some (.cells z7 37 (0,0))
def Er (w:World) (K:Nat) (d:DP) (T:Tx) (lo pages st D:Nat) (v:World):Prop:=DecS w K d T 12 v/\lo<=D/\v.heap[D]?=some (.cells (ig pages st v6 v6) 37 (0,0))
theorem DecS.num (h:DecS w K d T off v) (hk:DecK w K d lo) (h4:At4 T off n):
  Calls prog 25 #[.int .i64 4,pB d.p4,pB d.p5] v λe q=>e=.returned (.int .u32 n)/\DecS w K d T (off+4) q/\Chg (λk=>k=d.R\/k=d.p5) v q:=
 (qD v d lo T off n h.s hk.ok h4).mono λe q ⟨he,hc,hs⟩=>⟨he,⟨h.b.trans (hc.lowB h.b.size λk hk' e=>by have:=hk.wR;have:=hk.w5;rcases e with e|e<;>omega),(hc.block K (ab h.res) (λe=>e.elim hk.kR hk.k5)).trans h.res,hs⟩,hc⟩
theorem sq.new (h:Hid (vY w K d T lo off v)):Hid (sq w K d T lo off v.heap.size (v.alloc (.cells z7 37))):=
 ⟨⟨h.out.1.b.alloc h.out.1.b.size _,((az:Below v.heap.size v (v.alloc (.cells z7 37))).block K (ab h.out.1.res)).trans h.out.1.res,h.out.1.s.below (az)⟩,h.out.2,dw rfl⟩
theorem vY.num (hk:DecK w K d lo) (h4:At4 T off n):Hid (∀v,Hid (vY w K d T lo off v)->Calls prog 25 #[.int .i64 4,pB d.p4,pB d.p5] v λe q=>e=.returned (.int .u32 n)/\q.cell? ⟨d.p6,0,none⟩=some (.func (.func 25) #[] #[pB d.p4,pB d.p5])/\Hid (vY w K d T lo (off+4) q)):=
 aa λv hv=>(hv.out.1.num hk h4).mono λe q ⟨he,hs,hc⟩=>⟨he,hs.s.c6.c,hs,ay hv.out.2 hc.size⟩
theorem sq.num (hk:DecK w K d lo) (h4:At4 T off n):Hid (∀v D,Hid (sq w K d T lo off D v)->Calls prog 25 #[.int .i64 4,pB d.p4,pB d.p5] v λe q=>e=.returned (.int .u32 n)/\q.cell? ⟨d.p6,0,none⟩=some (.func (.func 25) #[] #[pB d.p4,pB d.p5])/\Hid (sq w K d T lo (off+4) D q)):=
 aa λv D hv=>(hv.out.1.num hk h4).mono λe q ⟨he,hs,hc⟩=>⟨he,hs.s.c6.c,hs,hv.out.2.1,(hc.block D (ab hv.out.2.2) (by
  have:=hv.out.2.1;have a:=hk.ok.2.2.1;have b:=hk.ok.2.2.2.2.1;rintro(e|e)<;>omega)).trans hv.out.2.2⟩
theorem Er.of {q z:World} (hk:DecK w K d lo) (h:DecS w K d T 12 q) (hD:lo<=D) (hw:w.heap.size<=D) (hr:z.heap[D]?=some (.cells (ig pages st v6 v6) 37 (0,0))) (hc:Chg (λk=>k=D) q z):Er w K d T lo pages st D z:=by
 obtain⟨_,l4,c,e,g,f⟩:=hk.ok;have b:=hk.k;exact⟨⟨hc.below h.b λi a=>by have a:i=D:=a;omega,(hc.block K (ab h.res) (by omega)).trans h.res,h.s.chg hc (by omega) (by omega) (by omega) (by omega) (by omega)⟩,hD,hr⟩
theorem vY.last (hk:DecK w K d lo) (h4:At4 T 8 n):Hid (∀v,Hid (vY w K d T lo 8 v)->Calls prog 25 #[.int .i64 4,pB d.p4,pB d.p5] v λe q=>e=.returned (.int .u32 n)/\q.cell? ⟨d.p6,0,none⟩=some (.func (.func 25) #[] #[pB d.p4,pB d.p5])/\Hid (Er w K d T lo pages st q.heap.size (q.alloc (.cells (ig pages st v6 v6) 37)))):=
 aa λv hv=>((vY.num hk h4).out v hv).mono λe q ⟨he,h6,hs⟩=>⟨he,h6,Er.of hk hs.out.1 hs.out.2 hs.out.1.b.size (dw rfl) ((Chg.refl _ _).alloc _)⟩
theorem sq.last (hk:DecK w K d lo) (h4:At4 T 8 n):Hid (∀v D,Hid (sq w K d T lo 8 D v)->Calls prog 25 #[.int .i64 4,pB d.p4,pB d.p5] v λe q=>e=.returned (.int .u32 n)/\q.cell? ⟨d.p6,0,none⟩=some (.func (.func 25) #[] #[pB d.p4,pB d.p5])/\((q.cell? ⟨D,0,none⟩=some (.int .i64 0)/\q.cell? ⟨D,1,none⟩=some (.int .i64 0)/\q.cell? ⟨D,2,none⟩=some (.int .i64 0)/\q.cell? ⟨D,3,none⟩=some (.slice none 0 0)/\q.cell? ⟨D,4,none⟩=some (.string ⟨#[]⟩)/\q.cell? ⟨D,5,none⟩=some (.slice none 0 0)/\q.cell? ⟨D,6,none⟩=some (.slice none 0 0)) /\
  (q.frozen? ⟨D,0,none⟩=false/\q.frozen? ⟨D,1,none⟩=false/\q.frozen? ⟨D,2,none⟩=false/\q.frozen? ⟨D,3,none⟩=false/\q.frozen? ⟨D,4,none⟩=false/\q.frozen? ⟨D,5,none⟩=false/\q.frozen? ⟨D,6,none⟩=false))/\Hid (Er w K d T lo pages st D (((((((q.setCell ⟨D,0,none⟩ (.int .i64 pages)).setCell ⟨D,1,none⟩ (.int .i64 st)).setCell ⟨D,2,none⟩ (.int .i64 0)).setCell ⟨D,3,none⟩ (.slice none 0 0)).setCell ⟨D,4,none⟩ (.string ⟨#[]⟩)).setCell ⟨D,5,none⟩ (.slice none 0 0)).setCell ⟨D,6,none⟩ (.slice none 0 0)))):=
 aa λv D hv=>((sq.num hk h4).out v D hv).mono λe q ⟨he,h6,hs⟩=>by
  obtain⟨a,b⟩:=Ja hs.out.2.2 (.int .i64 pages) (.int .i64 st) (.int .i64 0) (.slice none 0 0) (.string ⟨#[]⟩) (.slice none 0 0) (.slice none 0 0);exact⟨he,h6,iK hs.out.2.2,Er.of hk hs.out.1 hs.out.2.1 (by have:=hs.out.2.1;have:=hk.k;have:=hk.w0;omega) a b⟩
theorem MX {u:World} {P:Nat} (hKK:w.heap.size=K) (hb:Below (K+1) (w.alloc (.cells z7 37)) u) (hrd:RdAt u (K+1+1) (K+1) T 0) (hsz:u.heap.size=K+1+2) (hP:u.heap.size=P):
  DecK w K ⟨P,P+1,P+1+1,K+1+1,K+1⟩ (P+1+1+1)/\DecS w K ⟨P,P+1,P+1+1,K+1+1,K+1⟩ T 0 (((u.alloc (.cells #[pB (K+1+1)] 84)).alloc (.cells #[.bool true] 4)).alloc (.cells #[.func (.func 25) #[] #[pB P,pB (P+1)]] 88))/\(((u.alloc (.cells #[pB (K+1+1)] 84)).alloc (.cells #[.bool true] 4)).alloc (.cells #[.func (.func 25) #[] #[pB P,pB (P+1)]] 88)).heap.size=P+1+1+1:=by
 have c:∀(v:World) (o:Obj),(v.alloc o).heap.size=v.heap.size+1:=λv o=>ah _ _;generalize d:u.alloc (.cells #[pB (K+1+1)] 84)=v1;generalize e:v1.alloc (.cells #[.bool true] 4)=v2;generalize f:v2.alloc (.cells #[.func (.func 25) #[] #[pB P,pB (P+1)]] 88)=v3;have h:v1.heap.size=P+1:=by rw[<- d,c,hP]
 have i:v2.heap.size=P+1+1:=by rw[<- e,c,h]
 have q:v3.heap.size=P+1+1+1:=by rw[<- f,c,i]
 have k:Below u.heap.size u v1:=by rw[<- d];exact az
 have g:Below v1.heap.size v1 v2:=by rw[<- e];exact az
 have b:Below v2.heap.size v2 v3:=by rw[<- f];exact az
 have a:Below u.heap.size u v3:=k.trans ((g.mono (by omega)).trans (b.mono (by omega)));have l:v1.heap[P]?=some (.cells #[pB (K+1+1)] 84 (0,0)):=by rw[<- d];exact dw hP
 have m:v2.heap[P+1]?=some (.cells #[.bool true] 4 (0,0)):=by rw[<- e];exact dw h
 have n:v3.heap[P+1+1]?=some (.cells #[.func (.func 25) #[] #[pB P,pB (P+1)]] 88 (0,0)):=by rw[<- f];exact dw i
 have j:Below K w (w.alloc (.cells z7 37)):=by rw[<- hKK];exact az
 have p:(w.alloc (.cells z7 37)).heap[K]?=some (.cells z7 37 (0,0)):=dw hKK;refine⟨⟨⟨⟨?_,?_,?_,?_,?_,?_⟩,?_,?_,?_,?_,?_⟩,by omega,?_,?_,by omega,?_,?_⟩,⟨?_,?_,⟨?_,?_,?_,n⟩⟩,q⟩
 any_goals (simp only[];omega)
 ·rw[hKK];exact(j.trans (hb.mono (by omega))).trans (a.mono (by omega))
 ·exact(a.block K (by omega)).trans ((hb.block K (by omega)).trans p)
 ·exact hrd.below a
 ·exact(b.block P (by omega)).trans ((g.block P (by omega)).trans l)
 ·exact(b.block (P+1) (by omega)).trans m
def mz (wc:World) (d:DP) (D lo:Nat) (T:Tx) (pages st:Nat) (ws gs:List Int) (off:Nat) (v:World):Prop:=
 Chg (λk=>k=d.R\/k=d.p5\/k=D\/lo<=k) wc v/\DSt v d T off/\lo<=v.heap.size/\∃wv gv,v.heap[D]?=some (.cells (ig pages st wv gv) 37 (0,0))/\v.ownsRow lo 40 1 wv ws.length (gf ws)/\v.ownsRow lo 40 1 gv gs.length (gf gs)/\(gs=[]->gv=v6)
structure DecN (d:DP) (D lo:Nat):Prop where
 ok:d.ok lo
 Dlo:D<lo
 DR:¬D=d.R
 D5:¬D=d.p5
 GD:¬d.G=D
 D4:¬d.p4=D
 D6:¬d.p6=D
theorem mz.cells (h:mz wc d D lo T pages st ws gs off v):
  v.cell? ⟨d.p4,0,none⟩=some (pB d.R)/\v.cell? ⟨d.p5,0,none⟩=some (.bool true)/\v.frozen? ⟨d.p5,0,none⟩=false/\v.cell? ⟨d.p6,0,none⟩=some (.func (.func 25) #[] #[pB d.p4,pB d.p5])/\v.cell? ⟨D,4,none⟩=some (.string ⟨#[]⟩)/\v.frozen? ⟨D,4,none⟩=false:=by
 obtain⟨_,a,_,e,c,b,_⟩:=h;exact⟨a.c4.c,a.c5.c,aD _ _ 0 _ _ a.c5,a.c6.c,(ae b 4).trans rfl,aD _ _ 4 _ _ b⟩
theorem mz.on {off':Nat} {v':World} (h:mz wc d D lo T pages st ws gs off v) (hd:DecN d D lo) (hc:Chg (λk=>k=d.R\/k=d.p5) v v') (hs:DSt v' d T off'):mz wc d D lo T pages st ws gs off' v':=by
 obtain⟨j,_,l,o,f,c,m,b,hn⟩:=h;have p:=hd.ok.2.2.1;have q:=hd.ok.2.2.2.2.1;have a:∀{x:Value} {n:Nat} {xs:List Value},v.ownsRow lo 40 1 x n xs->v'.ownsRow lo 40 1 x n xs:=λho=>aY ho hc λg b=>by
  have:=cG ho g b;rintro(e|e)<;>omega
 exact⟨j.then (hc.mono λi _ e=>e.elim Or.inl λe=>.inr (.inl e)),hs,ay l hc.size,o,f,(hc.block D (ab c) (λe=>e.elim hd.DR hd.D5)).trans c,a m,a b,hn⟩
theorem mz.sets (h:mz wc d D lo T pages st ws gs off v) (hd:DecN d D lo):mz wc d D lo T pages st ws gs off ((v.setCell ⟨d.p5,0,none⟩ (.bool true)).setCell ⟨D,4,none⟩ (.string ⟨#[]⟩)):=by
 have f:Chg (λk=>k=d.R\/k=d.p5) v (v.setCell ⟨d.p5,0,none⟩ (.bool true)):=Chg.setCell (S:=λk=>k=d.R\/k=d.p5) (p:=⟨d.p5,0,none⟩) (Chg.refl _ _) (λ_=>.inr rfl) _;obtain⟨⟨x,u,y,g,l,i⟩,_⟩:=hd.ok;have a:Chg (λk=>k=d.p5) v (v.setCell ⟨d.p5,0,none⟩ (.bool true)):=Chg.setCell (S:=λk=>k=d.p5) (p:=⟨d.p5,0,none⟩) (Chg.refl _ _) (λ_=>rfl) _;have c:=h.2.1;obtain⟨n,o,q,w,m,s,t,r,hn⟩:=h.on hd f ⟨c.rd.chg a (λe=>u e.symm) i,c.c4.chg a g,aA (j:=0) c.c5 _,c.c6.chg a l⟩;have b:Chg (λk=>k=D) (v.setCell ⟨d.p5,0,none⟩ (.bool true)) ((v.setCell ⟨d.p5,0,none⟩ (.bool true)).setCell ⟨D,4,none⟩ (.string ⟨#[]⟩)):=Chg.setCell (S:=λk=>k=D) (p:=⟨D,4,none⟩) (Chg.refl _ _) (λ_=>rfl) _;exact⟨n.setCell (p:=⟨D,4,none⟩) (λ_=>.inr (.inr (.inl rfl))) _,o.chg b (λe=>hd.DR e.symm) hd.GD hd.D4 (λe=>hd.D5 e.symm) hd.D6,ay q b.size,w,m,aA (j:=4) s _,bg t (show D<lo from hd.Dlo) _,bg r (show D<lo from hd.Dlo) _,hn⟩
theorem mz.words (hT:ImT T pages st ws) (hn:ws.length<=4096) (hd:DecN d D lo) (hc:DSt wc d T 12) (hlo:lo<=wc.heap.size) (hr:wc.heap[D]?=some (.cells (ig pages st v6 v6) 37 (0,0))):
  Calls prog 27 #[.int .i64 4096,.func (.func 28) #[] #[pB D,pB d.p6],pB d.p6,pB d.p5] wc λe q=>e=.returned (.tuple #[])/\mz wc d D lo T pages st ws [] (16+4*ws.length) q:=by
 have h:=sY wc d lo T 12 4096 ws.length 28 #[pB D,pB d.p6] (λj v=>mz wc d D lo T pages st (ws.take j) [] (16+4*j) v) hc hd.ok hT.t12 hn (by omega)
  (λv hv hcv=>(⟨(Chg.refl _ _).then (hcv.mono λi _ e=>e.elim Or.inl λe=>.inr (.inl e)),hv,ay hlo hcv.size,v6,v6,(hcv.block D (ab hr) (λe=>e.elim hd.DR hd.D5)).trans hr,bq _ _ _ _,bq _ _ _ _,λ_=>rfl⟩:mz wc d D lo T pages st [] [] 16 v))
  (λj v hv=>hv.cells.2.1)
  (λj v hj hv=>by
   obtain⟨m,n,f,w,y,hr,s,k,a⟩:=hv;obtain rfl:=a rfl;obtain⟨x,l⟩:∃x,ws[j]?=some x:=⟨_,aw hj⟩;refine(D1 v d D lo T (16+4*j) x n hd.ok hd.Dlo hd.DR hd.GD hd.D5 (hT.tw j x l) f pages st v6 w (ws.take j) hr (λg k=>by cases k) s (by rw[bN];omega)).mono ?_;rintro e q ⟨o,hc,p,t,b,c⟩;have r:ws.take (j+1)=ws.take j++[x]:=by rw[bT,l];rfl
   refine⟨o,?_⟩;rw[r];exact⟨m.then (hc.mono λi _ e=>by rcases e with e|e|e|e;exact .inl e;exact .inr (.inl e);exact .inr (.inr (.inl e));exact .inr (.inr (.inr e.1))),p,ay f hc.size,t,v6,b,c,bq _ _ _ _,λ_=>rfl⟩)
  (λu=>by kernel_rfl)
 rw[cg]at h;exact h
theorem mz.none (h:mz wc d D lo T pages st ws gs off v) (hd:DecN d D lo) (h4:At4 T off ((0:Nat):Int)):
  Calls prog 27 #[.int .i64 256,.func (.func 30) #[] #[pB d.p6,pB d.p5,pB D],pB d.p6,pB d.p5] v λe q=>e=.returned (.tuple #[])/\mz wc d D lo T pages st ws gs (off+4) q:=
 sY v d lo T off 256 0 30 #[pB d.p6,pB d.p5,pB D] (λj q=>mz wc d D lo T pages st ws gs (off+4) q) h.2.1 hd.ok h4 (by omega) (by omega) (λq hq hc=>h.on hd hc hq) (λj v hv=>hv.cells.2.1) (λj v hj=>by omega) (λu=>by kernel_rfl)
theorem mz.glob (h:mz wc d D lo T pages st ws [] off v) (hd:DecN d D lo) (h4:At4 T off ((1:Nat):Int)) (h5:At4 T (off+4) ((0:Nat):Int)):
  Calls prog 27 #[.int .i64 4,.func (.func 31) #[] #[pB D,pB d.p6],pB d.p6,pB d.p5] v λe q=>e=.returned (.tuple #[])/\mz wc d D lo T pages st ws [0] (off+4+4) q:=
 sY v d lo T off 4 1 31 #[pB D,pB d.p6] (λj q=>mz wc d D lo T pages st ws ([0].take j) (off+4+4*j) q) h.2.1 hd.ok h4 (by omega) (by omega) (λq hq a=>h.on hd a hq) (λj v hv=>hv.cells.2.1)
  (λj v hj hv=>by
   obtain rfl:j=0:=by omega
   obtain⟨o,p,l,n,y,t,m,b,c⟩:=hv;obtain rfl:=c rfl;refine(D0 v d D lo T (off+4) 0 p hd.ok hd.Dlo hd.DR hd.GD hd.D5 h5 l pages st n v6 [] t (λg b=>by intro s;cases s) (bq _ _ _ _) (by simp)).mono ?_;rintro e q ⟨r,a,w,x,f,k⟩;refine⟨r,o.then (a.mono λi _ e=>by rcases e with e|e|e|e;exact .inl e;exact .inr (.inl e);exact .inr (.inr (.inl e));exact .inr (.inr (.inr e.1))),w,ay l a.size,n,x,f,?_,k,λe=>by cases e⟩;refine aY m a λg b=>?_;have:=cG m g b;have z:=hd.ok.2.2.1;have B:=hd.ok.2.2.2.2.1;have A:=hd.Dlo;rintro(e|e|e|e)
   ·omega
   ·omega
   ·omega
   ·exact e.2 b)
  (λu=>by kernel_rfl)
structure DecE (wc:World) (K D:Nat) (d:DP) (T:Tx) (lo pages st:Nat) (ws:List Int) (v:World) (g c g2 c2:Nat):Prop where
 chg:Chg (λk=>k=d.R\/k=d.p5\/k=D\/lo<=k) wc v
 rd:RdAt v d.R d.G T T.length
 row:v.heap[D]?=some (.cells (ig pages st (.slice (some ⟨g,0,none⟩) ws.length c) (.slice (some ⟨g2,0,none⟩) 1 c2)) 37 (0,0))
 own:v.ownsRow lo 40 1 (.slice (some ⟨g,0,none⟩) ws.length c) ws.length (gf ws)
 zero:v.cell? ⟨g2,0,none⟩=some (.int .u32 0)
theorem mz.last (h:mz wc d D lo T pages st ws [0] off v) (ho:off=T.length) (hn:1<=ws.length):∃g c g2 c2,DecE wc K D d T lo pages st ws v g c g2 c2:=by
 obtain⟨e,f,m,n,l,k,b,i,j⟩:=h;obtain⟨g,c,rfl,_⟩:=(WordsAt.of b hn).ex;obtain⟨g2,c2,rfl,a,_⟩:=(WordsAt.of i (ag 1)).ex;exact⟨g,c,g2,c2,e,ho▸f.rd,k,b,(a 0 0 rfl)⟩
theorem IJ {base:Nat} {e:TypeId} {size:Nat} {a:Option Addr} {m n:Nat} {xs:List Value} (h:w.ownsRow base e size (.slice a m c) n xs):n<=c:=by
 rcases h.2 with⟨_,i⟩|⟨g,b,d,f,_,_,j,_⟩
 ·omega
 ·injection f with _ _ e3;omega
structure WordsC (w:World) (v:Value) (ws:List Int):Prop extends WordsAt w v ws where
 le:∀a m c,v=.slice a m c->ws.length<=c
theorem WordsC.of {B:Nat} {v:Value} (h:w.ownsRow B 40 1 v ws.length (gf ws)) (hn:1<=ws.length):WordsC w v ws:=
 ⟨WordsAt.of h hn,λa m c e=>by subst e;exact IJ h⟩
theorem DecE.fin {q3 q4:World} {g g2 c2:Nat} (hk:DecK w K d lo0) (hS:DecS w K d T 12 wc) (hD:lo0<=D) (hDl:D<lo) (hlo:lo=wc.heap.size) (hE:DecE wc K D d T lo pages st ws q3 g c g2 c2) (hb:Below q3.heap.size q3 q4) (hn:1<=ws.length):
  q4.heap[K]?=some (.cells z7 37 (0,0))/\q4.heap[D]?=some (.cells (ig pages st (.slice (some ⟨g,0,none⟩) ws.length c) (.slice (some ⟨g2,0,none⟩) 1 c2)) 37 (0,0)) /\
  ∀z,Chg (λk=>k=K) q4 z->Below w.heap.size w z/\WordsC z (.slice (some ⟨g,0,none⟩) ws.length c) ws:=by
 have o:=hk.w0;have q:=hk.wR;have p:=hk.w5;have m:=hk.k;have a:=(hE.chg.block K (ab hS.res) (by
  rintro(e|e|e|e)
  ·exact hk.kR e
  ·exact hk.k5 e
  ·omega
  ·omega)).trans hS.res
 have b:Below w.heap.size w q3:=hS.b.trans (hE.chg.lowB hS.b.size λk hk' e=>by
  have n:=hS.b.size;rcases e with e|e|e|e<;>omega)
 have h:=(hb.block K (ab a)).trans a;have j:Below w.heap.size w q4:=b.trans (hb.mono b.size);have f:q4.ownsRow lo 40 1 (.slice (some ⟨g,0,none⟩) ws.length c) ws.length (gf ws):=aY hE.own (Chg.of_below (S:=λ_=>False) hb) λg _ e=>e;refine⟨h,(hb.block D (ab hE.row)).trans hE.row,λz hz=>⟨hz.below j λi l=>by have l:i=K:=l;omega,WordsC.of (aY f hz λg' hg e=>?_) hn⟩⟩;have e:g'=K:=e;have:=cG f g' hg;have:=hS.b.size;omega
theorem Bq (hd:DecN d D lo) (ho:off<=T.length) (h:mz wc d D lo T pages st ws gs off v):
  Calls prog 29 #[pB d.R,.int .i64 0] v λe q=>e=.returned (.tuple #[.string ⟨#[]⟩,.bool true])/\mz wc d D lo T pages st ws gs off q:=by
 refine(uI v d.R d.G T off 0 h.2.1.rd (by omega)).mono ?_;rintro e q ⟨rfl,a,c⟩;obtain⟨⟨f,j,l,g,m,k⟩,_⟩:=hd.ok;have b:=h.2.1;refine⟨by simp,h.on hd (a.mono λi _ e=>.inl e) ⟨c,b.c4.chg a f,b.c5.chg a (λe=>j e),b.c6.chg a l⟩⟩
theorem DecN.of (hk:DecK w K d lo0) (h:Er w K d T lo0 pages st D v):DecN d D v.heap.size:=by
 obtain⟨n,l4,c,e,g,f⟩:=hk.ok;have b:=h.2.1;have a:=ab h.2.2;exact⟨⟨n,by omega,by omega,by omega,by omega,by omega⟩,a,by omega,by omega,by omega,by omega,by omega⟩
theorem sb (w:World) (pages st:Nat) (ws:List Int) (T:Tx) (hT:ImT T pages st ws) (hn1:1<=ws.length) (hn:ws.length<=4096) (hpg0:16<=pages) (hpg:pages<=1024) (hs0:st%256=0) (hst0:256<=st) (hst:st<=4096) (hlay:lh ws.length st pages=true):
  Calls prog 9 #[.string ⟨T.toArray⟩] w λe w'=>Below w.heap.size w w'/\∃v b2 c2,e=.returned (.tuple #[.agg (ig pages st v (.slice b2 1 c2)),.int .i64 0])/\WordsC w' v ws:=by
 obtain⟨K,E⟩:∃K,w.heap.size=K:=⟨_,rfl⟩;have hs0:(w.alloc (.cells z7 37)).heap.size=K+1:=by rw[ah,E]
 have O:=IS (w.alloc (.cells z7 37)) T (by rw[hT.len];omega) (by rw[hT.len];omega);rw[hs0]at O;have O:=aa O;have a4:=aa E;clear hs0
 go_enter func9,ntmps9
 go_wp2_with fail;refine O.mono ?_;rintro e u ⟨hb,rfl,a1,b⟩;obtain⟨P,hP⟩:∃P,u.heap.size=P:=⟨_,rfl⟩;have hY:=aa (MX a4.out hb a1 b hP);clear hb a1 b O E
 go_upto_region 5 with fail
 obtain⟨r,t,b⟩:=hY.out;generalize((u.alloc (.cells #[pB (K+1+1)] 84)).alloc (.cells #[.bool true] 4)).alloc (.cells #[.func (.func 25) #[] #[pB P,pB (P+1)]] 88)=y at t b ⊢;clear hY hP;have c6:y.cell? ⟨P+1+1,0,none⟩=some (.func (.func 25) #[] #[pB P,pB (P+1)]):=t.s.c6.c;have ad:=aH c6;have l:Below y.heap.size y y.drew:=(ai _ _).drew;have W:Hid (vY w K ⟨P,P+1,P+1+1,K+1+1,K+1⟩ T (P+1+1+1) 0 y.drew):=⟨⟨t.b.trans (l.mono t.b.size),t.res,t.s.below l⟩,Nat.le_of_eq b.symm⟩;have A:Hid (sq w K ⟨P,P+1,P+1+1,K+1+1,K+1⟩ T (P+1+1+1) 0 y.heap.size (y.alloc (.cells z7 37)).drew):=by
  have h:=(sq.new (aa (⟨t,Nat.le_of_eq b.symm⟩:vY w K ⟨P,P+1,P+1+1,K+1+1,K+1⟩ T (P+1+1+1) 0 y))).out;exact⟨⟨h.1.b.drew,h.1.res,h.1.s.below (ai _ _).drew⟩,h.2.1,h.2.2⟩
 have H1:Hid (∀v,Hid (vY w K ⟨P,P+1,P+1+1,K+1+1,K+1⟩ T (P+1+1+1) 0 v)->Calls prog 25 #[.int .i64 4,pB P,pB (P+1)] v λe q=>e=.returned (.int .u32 pages)/\q.cell? ⟨P+1+1,0,none⟩=some (.func (.func 25) #[] #[pB P,pB (P+1)])/\Hid (vY w K ⟨P,P+1,P+1+1,K+1+1,K+1⟩ T (P+1+1+1) 4 q)):=vY.num r hT.t0;have H2:Hid (∀v,Hid (vY w K ⟨P,P+1,P+1+1,K+1+1,K+1⟩ T (P+1+1+1) 4 v)->Calls prog 25 #[.int .i64 4,pB P,pB (P+1)] v λe q=>e=.returned (.int .u32 st)/\q.cell? ⟨P+1+1,0,none⟩=some (.func (.func 25) #[] #[pB P,pB (P+1)])/\Hid (vY w K ⟨P,P+1,P+1+1,K+1+1,K+1⟩ T (P+1+1+1) 8 q)):=vY.num r hT.t4;have A1:Hid (∀v D,Hid (sq w K ⟨P,P+1,P+1+1,K+1+1,K+1⟩ T (P+1+1+1) 0 D v)->Calls prog 25 #[.int .i64 4,pB P,pB (P+1)] v λe q=>e=.returned (.int .u32 pages)/\q.cell? ⟨P+1+1,0,none⟩=some (.func (.func 25) #[] #[pB P,pB (P+1)])/\Hid (sq w K ⟨P,P+1,P+1+1,K+1+1,K+1⟩ T (P+1+1+1) 4 D q)):=sq.num r hT.t0;have A2:Hid (∀v D,Hid (sq w K ⟨P,P+1,P+1+1,K+1+1,K+1⟩ T (P+1+1+1) 4 D v)->Calls prog 25 #[.int .i64 4,pB P,pB (P+1)] v λe q=>e=.returned (.int .u32 st)/\q.cell? ⟨P+1+1,0,none⟩=some (.func (.func 25) #[] #[pB P,pB (P+1)])/\Hid (sq w K ⟨P,P+1,P+1+1,K+1+1,K+1⟩ T (P+1+1+1) 8 D q)):=sq.num r hT.t4;have H3:Hid (∀v,Hid (vY w K ⟨P,P+1,P+1+1,K+1+1,K+1⟩ T (P+1+1+1) 8 v)->Calls prog 25 #[.int .i64 4,pB P,pB (P+1)] v λe q=>e=.returned (.int .u32 0)/\q.cell? ⟨P+1+1,0,none⟩=some (.func (.func 25) #[] #[pB P,pB (P+1)])/\Hid (Er w K ⟨P,P+1,P+1+1,K+1+1,K+1⟩ T (P+1+1+1) pages st q.heap.size (q.alloc (.cells (ig pages st v6 v6) 37)))):=vY.last r hT.t8;have A3:Hid (∀v D,Hid (sq w K ⟨P,P+1,P+1+1,K+1+1,K+1⟩ T (P+1+1+1) 8 D v)->Calls prog 25 #[.int .i64 4,pB P,pB (P+1)] v λe q=>e=.returned (.int .u32 0)/\q.cell? ⟨P+1+1,0,none⟩=some (.func (.func 25) #[] #[pB P,pB (P+1)])/\((q.cell? ⟨D,0,none⟩=some (.int .i64 0)/\q.cell? ⟨D,1,none⟩=some (.int .i64 0)/\q.cell? ⟨D,2,none⟩=some (.int .i64 0)/\q.cell? ⟨D,3,none⟩=some (.slice none 0 0)/\q.cell? ⟨D,4,none⟩=some (.string ⟨#[]⟩)/\q.cell? ⟨D,5,none⟩=some (.slice none 0 0)/\q.cell? ⟨D,6,none⟩=some (.slice none 0 0))/\(q.frozen? ⟨D,0,none⟩=false/\q.frozen? ⟨D,1,none⟩=false/\q.frozen? ⟨D,2,none⟩=false/\q.frozen? ⟨D,3,none⟩=false/\q.frozen? ⟨D,4,none⟩=false/\q.frozen? ⟨D,5,none⟩=false/\q.frozen? ⟨D,6,none⟩=false))/\(((((((q.setCell ⟨D,0,none⟩ (.int .i64 pages)).setCell ⟨D,1,none⟩ (.int .i64 st)).setCell ⟨D,2,none⟩ (.int .i64 0)).setCell ⟨D,3,none⟩ (.slice none 0 0)).setCell ⟨D,4,none⟩ (.string ⟨#[]⟩)).setCell ⟨D,5,none⟩ (.slice none 0 0)).setCell ⟨D,6,none⟩ (.slice none 0 0)).cell? ⟨P+1+1,0,none⟩=some (.func (.func 25) #[] #[pB P,pB (P+1)])/\Hid (Er w K ⟨P,P+1,P+1+1,K+1+1,K+1⟩ T (P+1+1+1) pages st D (((((((q.setCell ⟨D,0,none⟩ (.int .i64 pages)).setCell ⟨D,1,none⟩ (.int .i64 st)).setCell ⟨D,2,none⟩ (.int .i64 0)).setCell ⟨D,3,none⟩ (.slice none 0 0)).setCell ⟨D,4,none⟩ (.string ⟨#[]⟩)).setCell ⟨D,5,none⟩ (.slice none 0 0)).setCell ⟨D,6,none⟩ (.slice none 0 0)))):=aa λv D hv=>((sq.last r hT.t8).out v D hv).mono λe q ⟨f,a,h3,h4⟩=>⟨f,a,h3,h4.out.1.s.c6.c,h4⟩;have a8:IntKind.i64.wrap (pages:Int)=(pages:Int):=lf _ (by omega);have a9:IntKind.i64.wrap (st:Int)=(st:Int):=lf _ (by omega);have a7:IntKind.i64.wrap 0=0:=rfl;have a5:=aa b;clear t b l
 go_cut [8] (λs8 wx=>∃D:Nat,s8=pB D/\Hid (Er w K ⟨P,P+1,P+1+1,K+1+1,K+1⟩ T (P+1+1+1) pages st D wx))
 case first =>
  go_region_held3 (λw'=>w'.cell? ⟨P+1+1,0,none⟩=some (.func (.func 25) #[] #[pB P,pB (P+1)]))
   (first
    | with_reducible exact c6
    | with_reducible exact d
    | with_reducible exact k6
    | go_keep)
   (first
   | (go_at_call 25;with_reducible (show Calls prog 25 _ (World.alloc _ _) _);refine(A3.out _ _ (sq.new Y)).mono ?_;rintro e q3 ⟨rfl,d,⟨⟨q0,q1,I,q3,q4,q5,q6⟩,f0,f1,f2,f3,f4,H,f6⟩,k6,hf⟩;have a0:=aH d)
   | (go_at_call 25;refine(H3.out _ Y).mono ?_;rintro e q3 ⟨rfl,d,hf⟩;have a0:=aH d)
   | (go_at_call 25;refine(A3.out _ _ B).mono ?_;rintro e q3 ⟨rfl,d,⟨⟨q0,q1,I,q3,q4,q5,q6⟩,f0,f1,f2,f3,f4,H,f6⟩,k6,hf⟩;have a0:=aH d)
   | (go_at_call 25;with_reducible (show Calls prog 25 _ (World.alloc _ _) _);refine(A2.out _ _ (sq.new X)).mono ?_;rintro e I ⟨rfl,d,B⟩;have s:=aH d)
   | (go_at_call 25;refine(H2.out _ X).mono ?_;rintro e I ⟨rfl,d,Y⟩;have s:=aH d)
   | (go_at_call 25;refine(A2.out _ _ Z).mono ?_;rintro e I ⟨rfl,d,B⟩;have s:=aH d)
   | (go_at_call 25;with_reducible (show Calls prog 25 _ (World.drew (World.alloc _ _)) _);refine(A1.out _ _ A).mono ?_;rintro e q1 ⟨rfl,d,Z⟩;have F:=aH d)
   | (go_at_call 25;refine(H1.out _ W).mono ?_;rintro e q1 ⟨rfl,d,X⟩;have F:=aH d))
  all_goals
   clear H1 H2 H3 A1 A2 A3;go_wp2_with fail
   go_meet
   exact⟨_,rfl,hf⟩
 case rest =>
  obtain⟨D,rfl,V⟩:=hcut;have C:DecN ⟨P,P+1,P+1+1,K+1+1,K+1⟩ D wc.heap.size:=DecN.of r V.out;have HI:=aa V.out;have j:=aa C;have HK:=aa r;have G:=aa hT;have J:=aa hlay;have HB:=aa (show(1<=ws.length/\ws.length<=4096)/\(16<=pages/\pages<=1024)/\st%256=0/\256<=st/\st<=4096 from⟨⟨hn1,hn⟩,⟨hpg0,hpg⟩,hs0,hst0,hst⟩);have L:Hid (Calls prog 27 #[.int .i64 4096,.func (.func 28) #[] #[pB D,pB (P+1+1)],pB (P+1+1),pB (P+1)] wc λe q=>e=.returned (.tuple #[])/\(q.cell? ⟨P,0,none⟩=some (pB (K+1+1))/\q.cell? ⟨P+1,0,none⟩=some (.bool true)/\q.frozen? ⟨P+1,0,none⟩=false/\q.cell? ⟨P+1+1,0,none⟩=some (.func (.func 25) #[] #[pB P,pB (P+1)])/\q.cell? ⟨D,4,none⟩=some (.string ⟨#[]⟩)/\q.frozen? ⟨D,4,none⟩=false)/\Hid (mz wc ⟨P,P+1,P+1+1,K+1+1,K+1⟩ D wc.heap.size T pages st ws [] (16+4*ws.length) q)):=
   (mz.words hT hn C V.out.1.s (ag _) V.out.2.2).mono λe q ⟨f,a⟩=>⟨f,a.cells,a⟩
  clear V C r hT hlay hn1 hn hpg0 hpg hs0 hst0 hst H1 H2 H3 A1 A2 A3 W A a5 a8 a9 a7 c6 ad;go_wp2_with fail;refine L.mono ?_;rintro e q ⟨rfl,⟨Q,e5,H,R,eD,fD⟩,hq⟩;clear L;have H7:Hid (Calls prog 25 #[.int .i64 4,pB P,pB (P+1)] q.drew λe q=>e=.returned (.int .u32 0)/\(q.cell? ⟨P,0,none⟩=some (pB (K+1+1))/\q.cell? ⟨P+1,0,none⟩=some (.bool true)/\q.frozen? ⟨P+1,0,none⟩=false/\q.cell? ⟨P+1+1,0,none⟩=some (.func (.func 25) #[] #[pB P,pB (P+1)])/\q.cell? ⟨D,4,none⟩=some (.string ⟨#[]⟩)/\q.frozen? ⟨D,4,none⟩=false)/\Hid (mz wc ⟨P,P+1,P+1+1,K+1+1,K+1⟩ D wc.heap.size T pages st ws [] (16+4*ws.length+4) q)):=by
   have l:Below q.heap.size q q.drew:=(ai _ _).drew;refine(qD q.drew ⟨P,P+1,P+1+1,K+1+1,K+1⟩ wc.heap.size T _ _ (hq.out.2.1.below l) j.ok G.td).mono ?_;rintro e v ⟨rfl,hc,hs⟩;have h:mz wc ⟨P,P+1,P+1+1,K+1+1,K+1⟩ D wc.heap.size T pages st ws [] (16+4*ws.length+4) v:=hq.out.on j.out ((Chg.of_below (S:=λk=>k=K+1+1\/k=P+1) l).trans hc λi _ e=>e) hs;exact⟨rfl,h.cells,h⟩
  have H8:Hid (∀v,Hid (mz wc ⟨P,P+1,P+1+1,K+1+1,K+1⟩ D wc.heap.size T pages st ws [] (16+4*ws.length+4) v)->Calls prog 29 #[pB (K+1+1),.int .i64 0] v λe q=>e=.returned (.tuple #[.string ⟨#[]⟩,.bool true])/\(q.cell? ⟨P,0,none⟩=some (pB (K+1+1))/\q.cell? ⟨P+1,0,none⟩=some (.bool true)/\q.frozen? ⟨P+1,0,none⟩=false/\q.cell? ⟨P+1+1,0,none⟩=some (.func (.func 25) #[] #[pB P,pB (P+1)])/\q.cell? ⟨D,4,none⟩=some (.string ⟨#[]⟩)/\q.frozen? ⟨D,4,none⟩=false)/\Hid (mz wc ⟨P,P+1,P+1+1,K+1+1,K+1⟩ D wc.heap.size T pages st ws [] (16+4*ws.length+4) q)):=λv hv =>
   (Bq j.out (by rw[G.len];omega) hv.out).mono λe q ⟨f,a⟩=>⟨f,a.cells,a⟩
  go_upto_region 7 with fail
  go_region_held3 (λw'=>w'.cell? ⟨P,0,none⟩=some (pB (K+1+1))/\w'.cell? ⟨P+1+1,0,none⟩=some (.func (.func 25) #[] #[pB P,pB (P+1)]))
   (first
    | with_reducible exact⟨Q,R⟩
    | go_keep)
   (first
    | (go_at_call 25;refine H7.mono ?_;rintro e q1 ⟨rfl,⟨Q,e5,H,R,eD,fD⟩,F⟩)
    | (go_at_call 29;refine(H8.out _ F).mono ?_;rintro e I ⟨rfl,⟨Q,e5,H,R,eD,fD⟩,s⟩))
  clear H7 H8 hq;have M:Hid (Calls prog 27 #[.int .i64 256,.func (.func 30) #[] #[pB (P+1+1),pB (P+1),pB D],pB (P+1+1),pB (P+1)] ((I.setCell ⟨P+1,0,none⟩ (.bool true)).setCell ⟨D,4,none⟩ (.string ⟨#[]⟩)) λe q=>e=.returned (.tuple #[])/\(q.cell? ⟨P,0,none⟩=some (pB (K+1+1))/\q.cell? ⟨P+1,0,none⟩=some (.bool true)/\q.frozen? ⟨P+1,0,none⟩=false/\q.cell? ⟨P+1+1,0,none⟩=some (.func (.func 25) #[] #[pB P,pB (P+1)])/\q.cell? ⟨D,4,none⟩=some (.string ⟨#[]⟩)/\q.frozen? ⟨D,4,none⟩=false)/\Hid (mz wc ⟨P,P+1,P+1+1,K+1+1,K+1⟩ D wc.heap.size T pages st ws [] (16+4*ws.length+4+4) q)):=by
   have ht:=G.tf;rw[show 20+4*ws.length=16+4*ws.length+4 by omega]at ht;exact((s.out.sets j.out).none j.out ht).mono λe q ⟨f,a⟩=>⟨f,a.cells,a⟩
  have N:Hid (∀v,Hid (mz wc ⟨P,P+1,P+1+1,K+1+1,K+1⟩ D wc.heap.size T pages st ws [] (16+4*ws.length+4+4) v)->Calls prog 27 #[.int .i64 4,.func (.func 31) #[] #[pB D,pB (P+1+1)],pB (P+1+1),pB (P+1)] v λe q=>e=.returned (.tuple #[])/\(q.cell? ⟨P,0,none⟩=some (pB (K+1+1))/\q.cell? ⟨P+1,0,none⟩=some (.bool true)/\q.frozen? ⟨P+1,0,none⟩=false/\q.cell? ⟨P+1+1,0,none⟩=some (.func (.func 25) #[] #[pB P,pB (P+1)])/\q.cell? ⟨D,4,none⟩=some (.string ⟨#[]⟩)/\q.frozen? ⟨D,4,none⟩=false)/\Hid (mz wc ⟨P,P+1,P+1+1,K+1+1,K+1⟩ D wc.heap.size T pages st ws [0] (16+4*ws.length+4+4+4+4) q)):=λv hv=>by
   have f:=G.tg;have a:=G.te;rw[show 24+4*ws.length=16+4*ws.length+4+4 by omega]at f;rw[show 28+4*ws.length=16+4*ws.length+4+4+4 by omega]at a;exact(hv.out.glob j.out f a).mono λe q ⟨f,a⟩=>⟨f,a.cells,a⟩
  go_wp2_with fail;refine M.mono ?_;rintro e v1 ⟨rfl,⟨Q,e5,H,R,eD,fD⟩,a2⟩;clear M;go_wp2_with fail;refine(N.out _ a2).mono ?_;rintro e v2 ⟨rfl,⟨Q,e5,H,R,eD,fD⟩,a3⟩;clear N a2;obtain⟨g,c,g2,c2,U⟩:=a3.out.last (K:=K) (by rw[G.len];omega) HB.out.1.1;have HE:=aa U;obtain⟨n,m⟩:∃n,ws.length=n:=⟨_,rfl⟩;have ae:=aa m;have o:=U.row;rw[m]at o;have HL:Hid (Calls prog 32 #[pB (K+1+1)] v2 λe w'=>e=.returned (.int .i64 0)/\v2=w'):=(zd v2 _ _ T T.length U.rd).mono λe w' ⟨f,a⟩=>⟨by rw[f,Nat.sub_self];rfl,a⟩;have HC:Hid (Calls prog 33 #[.agg (ig pages st (.slice (some ⟨g,0,none⟩) n c) (.slice (some ⟨g2,0,none⟩) 1 c2))] v2 λe q=>e=.returned (.int .i64 0)/\(q.cell? ⟨D,0,none⟩=some (.int .i64 pages)/\q.cell? ⟨D,1,none⟩=some (.int .i64 st)/\q.cell? ⟨D,2,none⟩=some (.int .i64 0)/\q.cell? ⟨D,3,none⟩=some (.slice (some ⟨g,0,none⟩) n c)/\q.cell? ⟨D,4,none⟩=some (.string ⟨#[]⟩)/\q.cell? ⟨D,5,none⟩=some (.slice none 0 0)/\q.cell? ⟨D,6,none⟩=some (.slice (some ⟨g2,0,none⟩) 1 c2))/\((q.cell? ⟨K,0,none⟩=some (.int .i64 0)/\q.cell? ⟨K,1,none⟩=some (.int .i64 0)/\q.cell? ⟨K,2,none⟩=some (.int .i64 0)/\q.cell? ⟨K,3,none⟩=some (.slice none 0 0)/\q.cell? ⟨K,4,none⟩=some (.string ⟨#[]⟩)/\q.cell? ⟨K,5,none⟩=some (.slice none 0 0)/\q.cell? ⟨K,6,none⟩=some (.slice none 0 0))/\(q.frozen? ⟨K,0,none⟩=false/\q.frozen? ⟨K,1,none⟩=false/\q.frozen? ⟨K,2,none⟩=false/\q.frozen? ⟨K,3,none⟩=false/\q.frozen? ⟨K,4,none⟩=false/\q.frozen? ⟨K,5,none⟩=false/\q.frozen? ⟨K,6,none⟩=false))/\Hid (q.heap[K]?=some (.cells z7 37 (0,0))/\∀z,Chg (λk=>k=K) q z->Below w.heap.size w z/\WordsC z (.slice (some ⟨g,0,none⟩) n c) ws)):=by
   obtain⟨⟨b1,b2⟩,⟨b3,b4⟩,b5,b6,b7⟩:=HB.out;refine(oQ v2 pages st n c c2 g2 (some ⟨g,0,none⟩) (by omega) (by omega) b5 b6 b7 b3 b4 U.zero).mono ?_;rintro e w' ⟨hb,rfl⟩;obtain⟨r1,r2,r3⟩:=DecE.fin HK.out HI.out.1 HI.out.2.1 (ab HI.out.2.2) rfl HE.out hb b1;rw[m]at r2 r3;exact⟨by rw[<- m,ax J.out],(iK r2).1,iK r1,r1,r3⟩
  obtain⟨⟨q0,af,aj,q3,q4,q5,q6⟩,_⟩:=iK o;clear U o m a3
  go_wp2_with (first
   | (go_at_call 32;refine HL.mono ?_;rintro e w' ⟨rfl,rfl⟩)
   | (go_at_call 33;refine HC.mono ?_;rintro e v3 ⟨rfl,⟨d0,d1,d2,d3,d4,d5,d6⟩,⟨⟨k0,k1,k2,k3,k4,k5,k6⟩,m0,m1,m2,m3,m4,m5,m6⟩,x⟩))
  obtain⟨l1,l2⟩:=Ja x.out.1 (.int .i64 pages) (.int .i64 st) (.int .i64 0) (.slice (some ⟨g,0,none⟩) n c) (.string ⟨#[]⟩) (.slice none 0 0) (.slice (some ⟨g2,0,none⟩) 1 c2);obtain⟨a6,ac⟩:=x.out.2 _ l2;exact aN (gK (p:=2) (u:=3) rfl _ _ K 37 _ (0,0) _ rfl l1 underlying37 rfl (by kernel_rfl)) rfl ⟨a6,_,_,_,rfl,ac⟩
theorem EO:(mo qk [0]).map (λr=>r.1.all λx=>decide (0<=x/\x<4294967296))=some true:=by rfl
theorem EN:∃r,j9 16 qk=some r/\r.1.length=9/\r.2=256/\∀x∈r.1,0<=x/\x<4294967296:=by
 have a:=Ad;have b:=EO;cases hm:mo qk [0]with
 | none=>rw[hm]at a;cases a
 | some r =>
  rw[hm]at a b;simp only[kV,aq,aQ]at a b;refine⟨r,?_,a.1,a.2,λx hx=>by simpa using fZ.1 b x hx⟩;unfold j9;rw[wA,aj,hm,aj,a.1,a.2,ax (by decide)]
theorem wz {q:Option (List Fun)} (h:dU BO q):q=some qk:=by
 refine h.det ?_;unfold dU;rw[BN];exact⟨50,Ac⟩
theorem uP (w:World) (hL:Lay w):Calls prog 6 #[] w λe w'=>Below w.heap.size w w'/\e=.returned (.bool true):=by
 obtain⟨r,j,f,b,i⟩:=EN;obtain⟨T,m⟩:∃T,mv 16 256 r.1=T:=⟨_,rfl⟩;have s:Hid (Calls prog 8 #[.string ⟨#[102,117,110,99,32,109,97,105,110,40,41,32,123,32,111,117,116,32,55,59,32,125]⟩,.int .i64 16] w λe w'=>Hid (Below w.heap.size w w')/\e=.returned (.tuple #[.string ⟨T.toArray⟩,.nilIface])):=by
  refine(pU w BO 16 (by omega) (by omega) hL (by decide)).mono ?_;rintro e w' ⟨n,q,x,o⟩;obtain rfl:=wz x;unfold jD at o;rw[aj,j]at o;have k:e=.returned (.tuple #[.string ⟨(mv 16 r.2 r.1).toArray⟩,.nilIface]):=o;rw[b,m]at k;exact⟨n,k⟩
 have p:ImT T 16 256 r.1:=by rw[<- m];exact GH 16 256 r.1 (by omega) (by omega) (by omega) i
 have t:Hid (∀u,Calls prog 9 #[.string ⟨T.toArray⟩] u λe w'=>∃a c l c2,e=.returned (.tuple #[.agg (ig 16 256 (.slice a 9 c) (.slice l 1 c2)),.int .i64 0])/\Hid (Below u.heap.size u w')):=λu=>by
  refine(sb u 16 256 r.1 T p (by omega) (by omega) (by omega) (by omega) (by omega) (by omega) (by omega) (by rw[f];decide)).mono ?_;rintro e w' ⟨n,v,l,c2,rfl,y⟩;obtain⟨g,c,rfl,_⟩:=y.ex;exact⟨_,c,l,c2,by rw[f],n⟩
 clear p j f b i m hL
 go_enter func6,ntmps6
 go_wp2_with fail;refine s.mono ?_;rintro e z ⟨d,rfl⟩;go_wp2_with fail;refine(t.out z).mono ?_;rintro e A ⟨a,c,l,c2,rfl,h⟩;go_wp2_with fail;go_ret;exact⟨(d.out.trans (h.out.mono d.out.size)).alloc (ay d.out.size h.out.size) _,rfl⟩
end Go.Proofs.YtbeaaimcpkogcaaGreatDoor
