/- Lemmas on the way to the claim. -/
import Derived.Laws.EntriesVeiled
import Derived.Test.YtbeaaimcpkogcaaGreatDoorM17
set_option linter.unusedSimpArgs false
set_option linter.unusedVariables false
set_option maxHeartbeats 4000000
namespace Go.Proofs.YtbeaaimcpkogcaaGreatDoor
open Go.Proofs.Tryz Go.RowKit
variable {W a b c m op x:Int} {w w0 z:World} {C D p:Nat} {o:Obj} {S:ByteArray}
section
open Go.Shelf
def tkv (W p b:Int):Int:=W/2^p.toNat%2^b.toNat
def A6 (p b:Int):Prop:=(p=20/\b=4)\/(p=16/\b=4)\/(p=12/\b=4)\/(p=0/\b=12)\/(p=11/\b=1)\/(p=0/\b=20)\/(p=19/\b=1)
theorem IW (x:Int) (h0:0<=x) (h1:x<4294967296):wrap64 (bits .and .u32 x 15)=x%16:=by
 rw[u32_and _ _ h0 h1 (by omega) (by omega),show(15:Int).toNat=15 from rfl,nat_mask4];unfold wrap64;omega
theorem MG (x:Int) (h0:0<=x) (h1:x<4294967296):wrap64 (bits .and .u32 x 1)=x%2:=by
 rw[u32_and _ _ h0 h1 (by omega) (by omega),show(1:Int).toNat=1 from rfl,nat_mask1];unfold wrap64;omega
theorem IV (x:Int) (h0:0<=x) (h1:x<4294967296):wrap64 (bits .and .u32 x 4095)=x%4096:=by
 rw[u32_and _ _ h0 h1 (by omega) (by omega),show(4095:Int).toNat=4095 from rfl,nat_mask12];unfold wrap64;omega
theorem Ay (x:Int) (h0:0<=x) (h1:x<4294967296):wrap64 (bits .and .u32 x 1048575)=x%1048576:=by
 rw[u32_and _ _ h0 h1 (by omega) (by omega),show(1048575:Int).toNat=1048575 from rfl,nat_mask20];unfold wrap64;omega
theorem sH (h:a=b):Ending.returned (.int .i64 a)=.returned (.int .i64 b):=by rw[h]
theorem hZ (w:World) (C:Nat) (W p b:Int) (hc:w.cell? ⟨C,0,none⟩=some (.int .u32 W)) (hW0:0<=W) (hW1:W<4294967296) (hv:A6 p b):
  Calls prog 89 #[.int .i64 p,.int .i64 b,.pointer (some ⟨C,0,none⟩)] w λe w'=>e=.returned (.int .i64 (tkv W p b))/\∃n,w'=w.drewN n:=by
 rcases hv with⟨rfl,rfl⟩|⟨rfl,rfl⟩|⟨rfl,rfl⟩|⟨rfl,rfl⟩|⟨rfl,rfl⟩|⟨rfl,rfl⟩|⟨rfl,rfl⟩
 ·go_enter func89,ntmps89
  go_wp2
  go_quiet (fail)
  go_wp2
  go_ret;exact⟨sH (IW (W/1048576) (by omega) (by omega)),_,rfl⟩
 ·go_enter func89,ntmps89
  go_wp2
  go_quiet (fail)
  go_wp2
  go_ret;exact⟨sH (IW (W/65536) (by omega) (by omega)),_,rfl⟩
 ·go_enter func89,ntmps89
  go_wp2
  go_quiet (fail)
  go_wp2
  go_ret;exact⟨sH (IW (W/4096) (by omega) (by omega)),_,rfl⟩
 ·go_enter func89,ntmps89
  go_wp2
  go_quiet (fail)
  go_wp2
  go_ret;exact⟨sH ((IV W (by omega) (by omega)).trans (by unfold tkv;rw[show W/2^(0:Int).toNat=W from Int.ediv_one W];rfl)),_,rfl⟩
 ·go_enter func89,ntmps89
  go_wp2
  go_quiet (fail)
  go_wp2
  go_ret;exact⟨sH (MG (W/2048) (by omega) (by omega)),_,rfl⟩
 ·go_enter func89,ntmps89
  go_wp2
  go_quiet (fail)
  go_wp2
  go_ret;exact⟨sH ((Ay W (by omega) (by omega)).trans (by unfold tkv;rw[show W/2^(0:Int).toNat=W from Int.ediv_one W];rfl)),_,rfl⟩
 ·go_enter func89,ntmps89
  go_wp2
  go_quiet (fail)
  go_wp2
  go_ret;exact⟨sH (MG (W/524288) (by omega) (by omega)),_,rfl⟩
def sgv (W b:Int):Int:=tkv W 0 b-tkv W (b-1) 1*2^b.toNat
theorem lZ (w:World) (C D:Nat) (W b:Int) (hc:w.cell? ⟨C,0,none⟩=some (.int .u32 W)) (hd:w.cell? ⟨D,0,none⟩=some (.func (.func 89) #[] #[.pointer (some ⟨C,0,none⟩)])) (hW0:0<=W) (hW1:W<4294967296) (hb:b=12\/b=20):
  Calls prog 90 #[.int .i64 b,.pointer (some ⟨D,0,none⟩)] w λe w'=>e=.returned (.int .i64 (sgv W b))/\∃n,w'=w.drewN n:=by
 rcases hb with rfl|rfl
 ·have a:0<=tkv W 0 12/\tkv W 0 12<4096:=by unfold tkv;simp only[show(12:Int).toNat=12 from rfl,Int.reducePow];omega
  have c:0<=tkv W 11 1/\tkv W 11 1<=1:=by unfold tkv;simp only[show(1:Int).toNat=1 from rfl,Int.reducePow];omega
  obtain⟨a,d⟩:=a;obtain⟨c,f⟩:=c
  go_enter func90,ntmps90
  go_wp2
  go_quiet (first|(go_at_call 89;refine Calls.quiet_of (hZ _ C W _ _ ?_ hW0 hW1 (by unfold A6;omega));exact hc))
  go_wp2
  go_ret;exact⟨sH rfl,_,rfl⟩
 ·have a:0<=tkv W 0 20/\tkv W 0 20<1048576:=by unfold tkv;simp only[show(20:Int).toNat=20 from rfl,Int.reducePow];omega
  have c:0<=tkv W 19 1/\tkv W 19 1<=1:=by unfold tkv;simp only[show(1:Int).toNat=1 from rfl,Int.reducePow];omega
  obtain⟨a,d⟩:=a;obtain⟨c,f⟩:=c
  go_enter func90,ntmps90
  go_wp2
  go_quiet (first|(go_at_call 89;refine Calls.quiet_of (hZ _ C W _ _ ?_ hW0 hW1 (by unfold A6;omega));exact hc))
  go_wp2
  go_ret;exact⟨sH rfl,_,rfl⟩
structure SD (w0 w:World) (C D:Nat) (o:Obj) (op a b c m W:Int):Prop where
 le:w0.heap.size<=C
 hC:w.heap[C]?=some (.cells #[.int .u32 W] 40 (0,0))
 hR:w.heap[C+1]?=some (.cells (fP 0 0 0 0 0) 99 (0,0))
 hI:w.heap[C+1+1]?=some (.cells (fP op a b c m) 99 (0,0))
 hF:w.heap[C+1+1+1]?=some (.cells #[.func (.func 89) #[] #[.pointer (some ⟨C,0,none⟩)]] 178 (0,0))
 ltD:C+1+1+1<D
 it:w.heap[D]?=some o
 bel:Below w0.heap.size w0 w
theorem SD.cells (h:SD w0 w C D o op a b c m W):
  w.cell? ⟨C,0,none⟩=some (.int .u32 W)/\w.cell? ⟨C+1+1+1,0,none⟩=some (.func (.func 89) #[] #[.pointer (some ⟨C,0,none⟩)]) /\
  (w.cell? ⟨C+1+1,0,none⟩=some (.int .i64 op)/\w.cell? ⟨C+1+1,1,none⟩=some (.int .i64 a)/\w.cell? ⟨C+1+1,2,none⟩=some (.int .i64 b)/\w.cell? ⟨C+1+1,3,none⟩=some (.int .i64 c)/\w.cell? ⟨C+1+1,4,none⟩=some (.int .i64 m)) /\
  (w.frozen? ⟨C+1+1,1,none⟩=false/\w.frozen? ⟨C+1+1,2,none⟩=false/\w.frozen? ⟨C+1+1,3,none⟩=false/\w.frozen? ⟨C+1+1,4,none⟩=false):=
 ⟨bp h.hC,bp h.hF,⟨(ae h.hI 0).trans rfl,(ae h.hI 1).trans rfl,(ae h.hI 2).trans rfl,(ae h.hI 3).trans rfl,(ae h.hI 4).trans rfl⟩,
  ij h.hI 1,ij h.hI 2,ij h.hI 3,ij h.hI 4⟩
theorem SD.put {op' a' b' c' m':Int} (h:SD w0 w C D o op a b c m W) (j:Nat) (v:Int) (n:Nat) (hj:(fP op a b c m).setIfInBounds j (.int .i64 v)=fP op' a' b' c' m'):
  SD w0 ((w.drewN n).setCell ⟨C+1+1,j,none⟩ (.int .i64 v)) C D o op' a' b' c' m' W:=by
 have d:=h.le;have e:=h.ltD;refine⟨h.le,?_,?_,?_,?_,h.ltD,?_,(qZ h.bel n).setCell (show w0.heap.size<=C+1+1 by omega) _⟩
 ·rw[bW _ _ _ _ (show C≠C+1+1 by omega)];exact h.hC
 ·rw[bW _ _ _ _ (show C+1≠C+1+1 by omega)];exact h.hR
 ·exact(heap_setCell_same (w.drewN n) _ j (fP op a b c m) 99 _ h.hI).trans (by rw[hj])
 ·rw[bW _ _ _ _ (show C+1+1+1≠C+1+1 by omega)];exact h.hF
 ·rw[bW _ _ _ _ (show D≠C+1+1 by omega)];exact h.it
theorem SD.keep {w':World} (h:SD w0 w C D o op a b c m W) (hb:Below w.heap.size w w'):SD w0 w' C D o op a b c m W:=
 ⟨h.le,by rw[hb.block _ (ab h.hC)];exact h.hC,by rw[hb.block _ (ab h.hR)];exact h.hR,by rw[hb.block _ (ab h.hI)];exact h.hI,by rw[hb.block _ (ab h.hF)];exact h.hF,h.ltD,
  by rw[hb.block _ (ab h.it)];exact h.it,h.bel.trans (hb.mono h.bel.size)⟩
theorem SD.nx (h:SD w0 w C D (.stringIter S p) op a b c m W) (p':Nat) (I L:Int) (hI:(p:Int)=I) (hp':p+1=p') (hp:p<S.size) (ha:(S[p]'hp).toNat<128) (hL:((S[p]'hp).toNat:Int)=L):
  ∃w':World,(∀ty,(Instr.next (.pointer (some ⟨D,0,none⟩)) true ty).run prog w=.ok (.tuple #[.bool true,.int .i64 I,.int .i32 L]) w')/\SD w0 w' C D (.stringIter S p') op a b c m W:=by
 subst hL hI hp';have d:=h.ltD;have e:=h.le;refine⟨w.iterAt D S (p+1),λty=>Lib.run_next_ascii_at w D S p ty h.it hp ha,h.le,?_,?_,?_,?_,h.ltD,rA _ _ _ _ _ h.it,pr h.bel (by omega) _ _⟩
 ·rw[Lib.iterAt_other _ _ _ _ _ (by omega)];exact h.hC
 ·rw[Lib.iterAt_other _ _ _ _ _ (by omega)];exact h.hR
 ·rw[Lib.iterAt_other _ _ _ _ _ (by omega)];exact h.hI
 ·rw[Lib.iterAt_other _ _ _ _ _ (by omega)];exact h.hF
theorem SD.nxe (h:SD w0 w C D (.stringIter S p) op a b c m W) (hp:¬p<S.size):
  ∀ty,(Instr.next (.pointer (some ⟨D,0,none⟩)) true ty).run prog w=.ok (.tuple #[.bool false]) w:=
 λty=>py w D S p ty h.it hp
theorem kP (w0 w:World) (W op:Int) (h:Below w0.heap.size w0 w) (ht:Tab w0) (x:ByteArray) (hx:fm op=x):
  Calls prog 40 #[.int .i64 op] ((((w.alloc (.cells #[.int .u32 W] 40)).alloc (.cells (fP 0 0 0 0 0) 99)).alloc (.cells (fP op 0 0 0 0) 99)).alloc (.cells #[.func (.func 89) #[] #[.pointer (some ⟨w.heap.size,0,none⟩)]] 178)) λe w' =>
   e=.returned (.string x)/\SD w0 (w'.iter x 0) w.heap.size w'.heap.size (.stringIter x 0) op 0 0 0 0 W:=by
 subst hx;generalize f:w.alloc (.cells #[.int .u32 W] 40)=u1;generalize b:u1.alloc (.cells (fP 0 0 0 0 0) 99)=u2;generalize c:u2.alloc (.cells (fP op 0 0 0 0) 99)=u3;generalize d:u3.alloc (.cells #[.func (.func 89) #[] #[.pointer (some ⟨w.heap.size,0,none⟩)]] 178)=u4;have p:u1.heap.size=w.heap.size+1:=by rw[<- f];exact ah _ _
 have q:u2.heap.size=w.heap.size+1+1:=by rw[<- b,ah,p]
 have r:u3.heap.size=w.heap.size+1+1+1:=by rw[<- c,ah,q]
 have A:u4.heap.size=w.heap.size+1+1+1+1:=by rw[<- d,ah,r]
 have y:=h.size;have j:Below w0.heap.size w0 u1:=by rw[<- f];exact h.alloc h.size _
 have l:Below w0.heap.size w0 u2:=by rw[<- b];exact j.alloc j.size _
 have m:Below w0.heap.size w0 u3:=by rw[<- c];exact l.alloc l.size _
 have g:Below w0.heap.size w0 u4:=by rw[<- d];exact m.alloc m.size _
 have s:u1.heap[w.heap.size]?=some (.cells #[.int .u32 W] 40 (0,0)):=by rw[<- f];exact af _ _
 have t:u2.heap[w.heap.size+1]?=some (.cells (fP 0 0 0 0 0) 99 (0,0)):=by rw[<- b,<- p];exact af _ _
 have u:u3.heap[w.heap.size+1+1]?=some (.cells (fP op 0 0 0 0) 99 (0,0)):=by rw[<- c,<- q];exact af _ _
 have v:u4.heap[w.heap.size+1+1+1]?=some (.cells #[.func (.func 89) #[] #[.pointer (some ⟨w.heap.size,0,none⟩)]] 178 (0,0)):=by rw[<- d,<- r];exact af _ _
 have z:∀k,k<u1.heap.size->u2.heap[k]?=u1.heap[k]?:=λk hk=>by rw[<- b];exact aK _ _ _ hk
 have o:∀k,k<u2.heap.size->u3.heap[k]?=u2.heap[k]?:=λk hk=>by rw[<- c];exact aK _ _ _ hk
 have i:∀k,k<u3.heap.size->u4.heap[k]?=u3.heap[k]?:=λk hk=>by rw[<- d];exact aK _ _ _ hk
 clear f b c d;refine(tv _ _ (ai _ _) (ht.below g) op).mono ?_;rintro e w' ⟨rfl,a⟩;have n:=a.size;refine⟨rfl,h.size,?_,?_,?_,?_,by omega,af _ _,(g.trans (a.mono g.size)).alloc (by omega) _⟩
 ·show(w'.alloc _).heap[w.heap.size]?=_
  rw[aK _ _ _ (by omega),a.block _ (by omega),i _ (by omega),o _ (by omega),z _ (by omega)];exact s
 ·show(w'.alloc _).heap[w.heap.size+1]?=_
  rw[aK _ _ _ (by omega),a.block _ (by omega),i _ (by omega),o _ (by omega)];exact t
 ·show(w'.alloc _).heap[w.heap.size+1+1]?=_
  rw[aK _ _ _ (by omega),a.block _ (by omega),i _ (by omega)];exact u
 ·show(w'.alloc _).heap[w.heap.size+1+1+1]?=_
  rw[aK _ _ _ (by omega),a.block _ (by omega)];exact v
theorem Jt (h:SD w0 w C D o op a b c m W) (ht:Tab w0):
  Calls prog 48 #[.agg (fP op a b c m)] w λe w'=>e=.returned (.tuple #[.int .u32 (iS op a b c m),.int .i64 (jh op a b c m)])/\SD w0 w' C D o op a b c m W:=by
 refine(zx w w (ai _ _) (ht.below h.bel) op a b c m).mono ?_;rintro e w' ⟨rfl,d⟩;exact⟨rfl,h.keep d⟩
def gu (op a b c m W:Int):Array Value:=if jh op a b c m=0/\iS op a b c m=W then fP op a b c m else fP 0 0 0 0 0
theorem mQ {v:Int} (hv:iS op a b c m=v) (hx:jh op a b c m=x):gu op a b c m W=if x=0/\v=W then fP op a b c m else fP 0 0 0 0 0:=by
 subst hv hx;rfl
theorem xN (hx:jh op a b c m=x):x=0\/x=2:=by
 subst hx;unfold jh;split
 ·exact .inl rfl
 ·exact .inr rfl
theorem mW (h:SD w0 w C D o op a b c m W) (ht:Tab w0) (v x:Int) (hv:iS op a b c m=v) (hx:jh op a b c m=x):
  Calls prog 48 #[.agg (fP op a b c m)] w λe w'=>e=.returned (.tuple #[.int .u32 v,.int .i64 x])/\SD w0 w' C D o op a b c m W:=by
 subst hv hx;exact Jt h ht
theorem gJ {g:Nat} {y0 y1 y2 y3 y4:Int} (h:z.heap[g]?=some (.cells (fP y0 y1 y2 y3 y4) 99 (0,0))) (x0 x1 x2 x3 x4:Int):
  (((((z.setCell ⟨g,0,none⟩ (.int .i64 x0)).setCell ⟨g,1,none⟩ (.int .i64 x1)).setCell ⟨g,2,none⟩ (.int .i64 x2)).setCell ⟨g,3,none⟩ (.int .i64 x3)).setCell ⟨g,4,none⟩ (.int .i64 x4)).heap[g]?=some (.cells (fP x0 x1 x2 x3 x4) 99 (0,0)):=
 heap_setCell_same _ g 4 _ 99 _ (heap_setCell_same _ g 3 _ 99 _ (heap_setCell_same _ g 2 _ 99 _ (heap_setCell_same _ g 1 _ 99 _ (heap_setCell_same _ g 0 _ 99 _ h))))
theorem gL (h:Below w0.heap.size w0 z) (hC:w0.heap.size<=C) (x0 x1 x2 x3 x4:Int):
  Below w0.heap.size w0 (((((z.setCell ⟨C+1,0,none⟩ (.int .i64 x0)).setCell ⟨C+1,1,none⟩ (.int .i64 x1)).setCell ⟨C+1,2,none⟩ (.int .i64 x2)).setCell ⟨C+1,3,none⟩ (.int .i64 x3)).setCell ⟨C+1,4,none⟩ (.int .i64 x4)):=by
 have a:w0.heap.size<=C+1:=by omega
 exact((((h.setCell (p:=⟨C+1,0,none⟩) a _).setCell (p:=⟨C+1,1,none⟩) a _).setCell (p:=⟨C+1,2,none⟩) a _).setCell (p:=⟨C+1,3,none⟩) a _).setCell (p:=⟨C+1,4,none⟩) a _
theorem SD.rcells (h:SD w0 w C D o op a b c m W):
  (w.cell? ⟨C+1,0,none⟩=some (.int .i64 0)/\w.cell? ⟨C+1,1,none⟩=some (.int .i64 0)/\w.cell? ⟨C+1,2,none⟩=some (.int .i64 0)/\w.cell? ⟨C+1,3,none⟩=some (.int .i64 0)/\w.cell? ⟨C+1,4,none⟩=some (.int .i64 0)) /\
  (w.frozen? ⟨C+1,0,none⟩=false/\w.frozen? ⟨C+1,1,none⟩=false/\w.frozen? ⟨C+1,2,none⟩=false/\w.frozen? ⟨C+1,3,none⟩=false/\w.frozen? ⟨C+1,4,none⟩=false):=
 ⟨⟨(ae h.hR 0).trans rfl,(ae h.hR 1).trans rfl,(ae h.hR 2).trans rfl,(ae h.hR 3).trans rfl,(ae h.hR 4).trans rfl⟩,
  ij h.hR 0,ij h.hR 1,ij h.hR 2,ij h.hR 3,ij h.hR 4⟩
theorem Lc (w0 w:World) (h:Below w0.heap.size w0 w) (ht:Tab w0) (W:Int) (hW0:0<=W) (hW1:W<4294967296) (hf:fm (W/16777216)=⟨#[97,105]⟩):
  Calls prog 36 #[.int .u32 W] w λe w'=>e=.returned (.agg (gu (W/16777216) (tkv W 20 4) 0 0 (sgv W 12) W))/\Below w0.heap.size w0 w':=by
 go_enter func36,ntmps36
 go_wp2_with fail;refine(kP w0 w W _ h ht _ hf).mono ?_;rintro e Z ⟨rfl,r⟩;obtain⟨J,E,a⟩:=r.nx 1 0 97 rfl rfl (by decide) (by decide) (by decide);obtain⟨j,l,⟨y,A,B,C,D⟩,⟨m,n,o,q⟩⟩:=a.cells;go_wp2_with fail;refine bC 3 ?_;rw[aO];go_wp2_with fail;refine(hZ J w.heap.size W 20 4 j hW0 hW1 (by unfold A6;omega)).mono ?_;rintro e X ⟨rfl,H,rfl⟩;have s:=a.put 1 (tkv W 20 4) H rfl;obtain⟨K,F,b⟩:=s.nx 2 1 105 rfl rfl (by decide) (by decide) (by decide);obtain⟨j,l,⟨y,A,B,C,D⟩,⟨m,n,o,q⟩⟩:=b.cells;go_wp2_with fail;rw[aO];go_wp2_with fail;refine(lZ K w.heap.size (w.heap.size+1+1+1) W 12 j l hW0 hW1 (by omega)).mono ?_;rintro e Y ⟨rfl,I,rfl⟩;have d:=b.put 4 (sgv W 12) I rfl;have G:=d.nxe (by decide);obtain⟨j,l,⟨y,A,B,C,D⟩,⟨m,n,o,q⟩⟩:=d.cells;go_wp2_with fail;rw[aO];go_wp2_with fail;obtain⟨v,t⟩:∃v,iS (W/16777216) (tkv W 20 4) 0 0 (sgv W 12)=v:=⟨_,rfl⟩;obtain⟨x,k⟩:∃x,jh (W/16777216) (tkv W 20 4) 0 0 (sgv W 12)=x:=⟨_,rfl⟩;have f:=mQ (W:=W) t k;refine(mW d ht v x t k).mono ?_;rintro e z ⟨rfl,g⟩;obtain⟨j,l,⟨y,A,B,C,D⟩,⟨m,n,o,q⟩⟩:=g.cells;obtain⟨⟨R,S,T,U,V⟩,⟨L,M,N,O,P⟩⟩:=g.rcells;have u:=xN k;clear t k;have c:=g.bel;rcases u with rfl|rfl
 ·by_cases hvW:v=W
  ·subst hvW
   have i:=aa (f.trans (ax ⟨rfl,rfl⟩));clear f;go_wp2_with fail;exact aN (results_cell_row (p:=2) rfl _ _ (w.heap.size+1) 99 (fP (v/16777216) (tkv v 20 4) 0 0 (sgv v 12)) (0,0) _ rfl (gJ g.hR _ _ _ _ _) underlying99 rfl (by kernel_rfl)) rfl ⟨by rw[i.out],gL c h.size _ _ _ _ _⟩
  ·have i:=aa (f.trans (ap λh=>hvW h.2))
   have Q:(v != W)=true:=by simpa using hvW
   clear f hvW;go_wp2_with fail;exact aN (results_cell_row (p:=2) rfl _ _ (w.heap.size+1) 99 (fP 0 0 0 0 0) (0,0) _ rfl (gJ g.hR _ _ _ _ _) underlying99 rfl (by kernel_rfl)) rfl ⟨by rw[i.out],gL c h.size _ _ _ _ _⟩
 ·have i:=aa (f.trans (ap λh=>by have:=h.1;omega))
  clear f;go_wp2_with fail;exact aN (results_cell_row (p:=2) rfl _ _ (w.heap.size+1) 99 (fP 0 0 0 0 0) (0,0) _ rfl (gJ g.hR _ _ _ _ _) underlying99 rfl (by kernel_rfl)) rfl ⟨by rw[i.out],gL c h.size _ _ _ _ _⟩
theorem Lb (w0 w:World) (h:Below w0.heap.size w0 w) (ht:Tab w0) (W:Int) (hW0:0<=W) (hW1:W<4294967296) (hf:fm (W/16777216)=⟨#[97,106]⟩):
  Calls prog 36 #[.int .u32 W] w λe w'=>e=.returned (.agg (gu (W/16777216) (tkv W 20 4) 0 0 (sgv W 20) W))/\Below w0.heap.size w0 w':=by
 go_enter func36,ntmps36
 go_wp2_with fail;refine(kP w0 w W _ h ht _ hf).mono ?_;rintro e Z ⟨rfl,r⟩;obtain⟨J,E,a⟩:=r.nx 1 0 97 rfl rfl (by decide) (by decide) (by decide);obtain⟨j,l,⟨y,A,B,C,D⟩,⟨m,n,o,q⟩⟩:=a.cells;go_wp2_with fail;refine bC 3 ?_;rw[aO];go_wp2_with fail;refine(hZ J w.heap.size W 20 4 j hW0 hW1 (by unfold A6;omega)).mono ?_;rintro e X ⟨rfl,H,rfl⟩;have s:=a.put 1 (tkv W 20 4) H rfl;obtain⟨K,F,b⟩:=s.nx 2 1 106 rfl rfl (by decide) (by decide) (by decide);obtain⟨j,l,⟨y,A,B,C,D⟩,⟨m,n,o,q⟩⟩:=b.cells;go_wp2_with fail;rw[aO];go_wp2_with fail;refine(lZ K w.heap.size (w.heap.size+1+1+1) W 20 j l hW0 hW1 (by omega)).mono ?_;rintro e Y ⟨rfl,I,rfl⟩;have d:=b.put 4 (sgv W 20) I rfl;have G:=d.nxe (by decide);obtain⟨j,l,⟨y,A,B,C,D⟩,⟨m,n,o,q⟩⟩:=d.cells;go_wp2_with fail;rw[aO];go_wp2_with fail;obtain⟨v,t⟩:∃v,iS (W/16777216) (tkv W 20 4) 0 0 (sgv W 20)=v:=⟨_,rfl⟩;obtain⟨x,k⟩:∃x,jh (W/16777216) (tkv W 20 4) 0 0 (sgv W 20)=x:=⟨_,rfl⟩;have f:=mQ (W:=W) t k;refine(mW d ht v x t k).mono ?_;rintro e z ⟨rfl,g⟩;obtain⟨j,l,⟨y,A,B,C,D⟩,⟨m,n,o,q⟩⟩:=g.cells;obtain⟨⟨R,S,T,U,V⟩,⟨L,M,N,O,P⟩⟩:=g.rcells;have u:=xN k;clear t k;have c:=g.bel;rcases u with rfl|rfl
 ·by_cases hvW:v=W
  ·subst hvW
   have i:=aa (f.trans (ax ⟨rfl,rfl⟩));clear f;go_wp2_with fail;exact aN (results_cell_row (p:=2) rfl _ _ (w.heap.size+1) 99 (fP (v/16777216) (tkv v 20 4) 0 0 (sgv v 20)) (0,0) _ rfl (gJ g.hR _ _ _ _ _) underlying99 rfl (by kernel_rfl)) rfl ⟨by rw[i.out],gL c h.size _ _ _ _ _⟩
  ·have i:=aa (f.trans (ap λh=>hvW h.2))
   have Q:(v != W)=true:=by simpa using hvW
   clear f hvW;go_wp2_with fail;exact aN (results_cell_row (p:=2) rfl _ _ (w.heap.size+1) 99 (fP 0 0 0 0 0) (0,0) _ rfl (gJ g.hR _ _ _ _ _) underlying99 rfl (by kernel_rfl)) rfl ⟨by rw[i.out],gL c h.size _ _ _ _ _⟩
 ·have i:=aa (f.trans (ap λh=>by have:=h.1;omega))
  clear f;go_wp2_with fail;exact aN (results_cell_row (p:=2) rfl _ _ (w.heap.size+1) 99 (fP 0 0 0 0 0) (0,0) _ rfl (gJ g.hR _ _ _ _ _) underlying99 rfl (by kernel_rfl)) rfl ⟨by rw[i.out],gL c h.size _ _ _ _ _⟩
theorem Jw (w0 w:World) (h:Below w0.heap.size w0 w) (ht:Tab w0) (W:Int) (hW0:0<=W) (hW1:W<4294967296) (hf:fm (W/16777216)=⟨#[97,98,99]⟩):
  Calls prog 36 #[.int .u32 W] w λe w'=>e=.returned (.agg (gu (W/16777216) (tkv W 20 4) (tkv W 16 4) (tkv W 12 4) 0 W))/\Below w0.heap.size w0 w':=by
 go_enter func36,ntmps36
 go_wp2_with fail;refine(kP w0 w W _ h ht _ hf).mono ?_;rintro e w2 ⟨rfl,B⟩;obtain⟨N,G,a⟩:=B.nx 1 0 97 rfl rfl (by decide) (by decide) (by decide);obtain⟨g,A,⟨r,s,t,u,y⟩,⟨l,m,n,o⟩⟩:=a.cells;go_wp2_with fail;refine bC 4 ?_;rw[aO];go_wp2_with fail;refine(hZ N w.heap.size W 20 4 g hW0 hW1 (by unfold A6;omega)).mono ?_;rintro e u0 ⟨rfl,K,rfl⟩;have C:=a.put 1 (tkv W 20 4) K rfl;obtain⟨O,H,b⟩:=C.nx 2 1 98 rfl rfl (by decide) (by decide) (by decide);obtain⟨g,A,⟨r,s,t,u,y⟩,⟨l,m,n,o⟩⟩:=b.cells;go_wp2_with fail;rw[aO];go_wp2_with fail;refine(hZ O w.heap.size W 16 4 g hW0 hW1 (by unfold A6;omega)).mono ?_;rintro e u1 ⟨rfl,L,rfl⟩;have D:=b.put 2 (tkv W 16 4) L rfl;obtain⟨P,I,c⟩:=D.nx 3 2 99 rfl rfl (by decide) (by decide) (by decide);obtain⟨g,A,⟨r,s,t,u,y⟩,⟨l,m,n,o⟩⟩:=c.cells;go_wp2_with fail;rw[aO];go_wp2_with fail;refine(hZ P w.heap.size W 12 4 g hW0 hW1 (by unfold A6;omega)).mono ?_;rintro e u2 ⟨rfl,M,rfl⟩;have f:=c.put 3 (tkv W 12 4) M rfl;have J:=f.nxe (by decide);obtain⟨g,A,⟨r,s,t,u,y⟩,⟨l,m,n,o⟩⟩:=f.cells;go_wp2_with fail;rw[aO];go_wp2_with fail;obtain⟨v,E⟩:∃v,iS (W/16777216) (tkv W 20 4) (tkv W 16 4) (tkv W 12 4) 0=v:=⟨_,rfl⟩;obtain⟨x,q⟩:∃x,jh (W/16777216) (tkv W 20 4) (tkv W 16 4) (tkv W 12 4) 0=x:=⟨_,rfl⟩;have i:=mQ (W:=W) E q;refine(mW f ht v x E q).mono ?_;rintro e z ⟨rfl,j⟩;obtain⟨g,A,⟨r,s,t,u,y⟩,⟨l,m,n,o⟩⟩:=j.cells;obtain⟨⟨X,Y,Z,r3,r4⟩,⟨Q,R,S,T,U⟩⟩:=j.rcells;have F:=xN q;clear E q;have d:=j.bel;rcases F with rfl|rfl
 ·by_cases hvW:v=W
  ·subst hvW
   have k:=aa (i.trans (ax ⟨rfl,rfl⟩));clear i;go_wp2_with fail;exact aN (results_cell_row (p:=2) rfl _ _ (w.heap.size+1) 99 (fP (v/16777216) (tkv v 20 4) (tkv v 16 4) (tkv v 12 4) 0) (0,0) _ rfl (gJ j.hR _ _ _ _ _) underlying99 rfl (by kernel_rfl)) rfl ⟨by rw[k.out],gL d h.size _ _ _ _ _⟩
  ·have k:=aa (i.trans (ap λh=>hvW h.2))
   have V:(v != W)=true:=by simpa using hvW
   clear i hvW;go_wp2_with fail;exact aN (results_cell_row (p:=2) rfl _ _ (w.heap.size+1) 99 (fP 0 0 0 0 0) (0,0) _ rfl (gJ j.hR _ _ _ _ _) underlying99 rfl (by kernel_rfl)) rfl ⟨by rw[k.out],gL d h.size _ _ _ _ _⟩
 ·have k:=aa (i.trans (ap λh=>by have:=h.1;omega))
  clear i;go_wp2_with fail;exact aN (results_cell_row (p:=2) rfl _ _ (w.heap.size+1) 99 (fP 0 0 0 0 0) (0,0) _ rfl (gJ j.hR _ _ _ _ _) underlying99 rfl (by kernel_rfl)) rfl ⟨by rw[k.out],gL d h.size _ _ _ _ _⟩
theorem Jv (w0 w:World) (h:Below w0.heap.size w0 w) (ht:Tab w0) (W:Int) (hW0:0<=W) (hW1:W<4294967296) (hf:fm (W/16777216)=⟨#[97,98,105]⟩):
  Calls prog 36 #[.int .u32 W] w λe w'=>e=.returned (.agg (gu (W/16777216) (tkv W 20 4) (tkv W 16 4) 0 (sgv W 12) W))/\Below w0.heap.size w0 w':=by
 go_enter func36,ntmps36
 go_wp2_with fail;refine(kP w0 w W _ h ht _ hf).mono ?_;rintro e w2 ⟨rfl,B⟩;obtain⟨N,G,a⟩:=B.nx 1 0 97 rfl rfl (by decide) (by decide) (by decide);obtain⟨g,l,⟨s,t,u,y,A⟩,⟨m,n,o,q⟩⟩:=a.cells;go_wp2_with fail;refine bC 4 ?_;rw[aO];go_wp2_with fail;refine(hZ N w.heap.size W 20 4 g hW0 hW1 (by unfold A6;omega)).mono ?_;rintro e u0 ⟨rfl,K,rfl⟩;have C:=a.put 1 (tkv W 20 4) K rfl;obtain⟨O,H,b⟩:=C.nx 2 1 98 rfl rfl (by decide) (by decide) (by decide);obtain⟨g,l,⟨s,t,u,y,A⟩,⟨m,n,o,q⟩⟩:=b.cells;go_wp2_with fail;rw[aO];go_wp2_with fail;refine(hZ O w.heap.size W 16 4 g hW0 hW1 (by unfold A6;omega)).mono ?_;rintro e u1 ⟨rfl,L,rfl⟩;have D:=b.put 2 (tkv W 16 4) L rfl;obtain⟨P,I,c⟩:=D.nx 3 2 105 rfl rfl (by decide) (by decide) (by decide);obtain⟨g,l,⟨s,t,u,y,A⟩,⟨m,n,o,q⟩⟩:=c.cells;go_wp2_with fail;rw[aO];go_wp2_with fail;refine(lZ P w.heap.size (w.heap.size+1+1+1) W 12 g l hW0 hW1 (by omega)).mono ?_;rintro e u2 ⟨rfl,M,rfl⟩;have f:=c.put 4 (sgv W 12) M rfl;have J:=f.nxe (by decide);obtain⟨g,l,⟨s,t,u,y,A⟩,⟨m,n,o,q⟩⟩:=f.cells;go_wp2_with fail;rw[aO];go_wp2_with fail;obtain⟨v,E⟩:∃v,iS (W/16777216) (tkv W 20 4) (tkv W 16 4) 0 (sgv W 12)=v:=⟨_,rfl⟩;obtain⟨x,r⟩:∃x,jh (W/16777216) (tkv W 20 4) (tkv W 16 4) 0 (sgv W 12)=x:=⟨_,rfl⟩;have i:=mQ (W:=W) E r;refine(mW f ht v x E r).mono ?_;rintro e z ⟨rfl,j⟩;obtain⟨g,l,⟨s,t,u,y,A⟩,⟨m,n,o,q⟩⟩:=j.cells;obtain⟨⟨X,Y,Z,r3,r4⟩,⟨Q,R,S,T,U⟩⟩:=j.rcells;have F:=xN r;clear E r;have d:=j.bel;rcases F with rfl|rfl
 ·by_cases hvW:v=W
  ·subst hvW
   have k:=aa (i.trans (ax ⟨rfl,rfl⟩));clear i;go_wp2_with fail;exact aN (results_cell_row (p:=2) rfl _ _ (w.heap.size+1) 99 (fP (v/16777216) (tkv v 20 4) (tkv v 16 4) 0 (sgv v 12)) (0,0) _ rfl (gJ j.hR _ _ _ _ _) underlying99 rfl (by kernel_rfl)) rfl ⟨by rw[k.out],gL d h.size _ _ _ _ _⟩
  ·have k:=aa (i.trans (ap λh=>hvW h.2))
   have V:(v != W)=true:=by simpa using hvW
   clear i hvW;go_wp2_with fail;exact aN (results_cell_row (p:=2) rfl _ _ (w.heap.size+1) 99 (fP 0 0 0 0 0) (0,0) _ rfl (gJ j.hR _ _ _ _ _) underlying99 rfl (by kernel_rfl)) rfl ⟨by rw[k.out],gL d h.size _ _ _ _ _⟩
 ·have k:=aa (i.trans (ap λh=>by have:=h.1;omega))
  clear i;go_wp2_with fail;exact aN (results_cell_row (p:=2) rfl _ _ (w.heap.size+1) 99 (fP 0 0 0 0 0) (0,0) _ rfl (gJ j.hR _ _ _ _ _) underlying99 rfl (by kernel_rfl)) rfl ⟨by rw[k.out],gL d h.size _ _ _ _ _⟩
theorem Ld (w0 w:World) (h:Below w0.heap.size w0 w) (ht:Tab w0) (W:Int) (hW0:0<=W) (hW1:W<4294967296) (hf:fm (W/16777216)=⟨#[97,98]⟩):
  Calls prog 36 #[.int .u32 W] w λe w'=>e=.returned (.agg (gu (W/16777216) (tkv W 20 4) (tkv W 16 4) 0 0 W))/\Below w0.heap.size w0 w':=by
 go_enter func36,ntmps36
 go_wp2_with fail;refine(kP w0 w W _ h ht _ hf).mono ?_;rintro e Z ⟨rfl,q⟩;obtain⟨J,E,a⟩:=q.nx 1 0 97 rfl rfl (by decide) (by decide) (by decide);obtain⟨j,D,⟨u,y,A,B,C⟩,⟨l,m,n,o⟩⟩:=a.cells;go_wp2_with fail;refine bC 3 ?_;rw[aO];go_wp2_with fail;refine(hZ J w.heap.size W 20 4 j hW0 hW1 (by unfold A6;omega)).mono ?_;rintro e X ⟨rfl,H,rfl⟩;have r:=a.put 1 (tkv W 20 4) H rfl;obtain⟨K,F,b⟩:=r.nx 2 1 98 rfl rfl (by decide) (by decide) (by decide);obtain⟨j,D,⟨u,y,A,B,C⟩,⟨l,m,n,o⟩⟩:=b.cells;go_wp2_with fail;rw[aO];go_wp2_with fail;refine(hZ K w.heap.size W 16 4 j hW0 hW1 (by unfold A6;omega)).mono ?_;rintro e Y ⟨rfl,I,rfl⟩;have d:=b.put 2 (tkv W 16 4) I rfl;have G:=d.nxe (by decide);obtain⟨j,D,⟨u,y,A,B,C⟩,⟨l,m,n,o⟩⟩:=d.cells;go_wp2_with fail;rw[aO];go_wp2_with fail;obtain⟨v,s⟩:∃v,iS (W/16777216) (tkv W 20 4) (tkv W 16 4) 0 0=v:=⟨_,rfl⟩;obtain⟨x,k⟩:∃x,jh (W/16777216) (tkv W 20 4) (tkv W 16 4) 0 0=x:=⟨_,rfl⟩;have f:=mQ (W:=W) s k;refine(mW d ht v x s k).mono ?_;rintro e z ⟨rfl,g⟩;obtain⟨j,D,⟨u,y,A,B,C⟩,⟨l,m,n,o⟩⟩:=g.cells;obtain⟨⟨R,S,T,U,V⟩,⟨L,M,N,O,P⟩⟩:=g.rcells;have t:=xN k;clear s k;have c:=g.bel;rcases t with rfl|rfl
 ·by_cases hvW:v=W
  ·subst hvW
   have i:=aa (f.trans (ax ⟨rfl,rfl⟩));clear f;go_wp2_with fail;exact aN (results_cell_row (p:=2) rfl _ _ (w.heap.size+1) 99 (fP (v/16777216) (tkv v 20 4) (tkv v 16 4) 0 0) (0,0) _ rfl (gJ g.hR _ _ _ _ _) underlying99 rfl (by kernel_rfl)) rfl ⟨by rw[i.out],gL c h.size _ _ _ _ _⟩
  ·have i:=aa (f.trans (ap λh=>hvW h.2))
   have Q:(v != W)=true:=by simpa using hvW
   clear f hvW;go_wp2_with fail;exact aN (results_cell_row (p:=2) rfl _ _ (w.heap.size+1) 99 (fP 0 0 0 0 0) (0,0) _ rfl (gJ g.hR _ _ _ _ _) underlying99 rfl (by kernel_rfl)) rfl ⟨by rw[i.out],gL c h.size _ _ _ _ _⟩
 ·have i:=aa (f.trans (ap λh=>by have:=h.1;omega))
  clear f;go_wp2_with fail;exact aN (results_cell_row (p:=2) rfl _ _ (w.heap.size+1) 99 (fP 0 0 0 0 0) (0,0) _ rfl (gJ g.hR _ _ _ _ _) underlying99 rfl (by kernel_rfl)) rfl ⟨by rw[i.out],gL c h.size _ _ _ _ _⟩
theorem Mq (w0 w:World) (h:Below w0.heap.size w0 w) (ht:Tab w0) (W:Int) (hW0:0<=W) (hW1:W<4294967296) (hf:fm (W/16777216)=⟨#[]⟩):
  Calls prog 36 #[.int .u32 W] w λe w'=>e=.returned (.agg (gu (W/16777216) 0 0 0 0 W))/\Below w0.heap.size w0 w':=by
 go_enter func36,ntmps36
 go_wp2_with fail;refine(kP w0 w W _ h ht _ hf).mono ?_;rintro e M ⟨rfl,b⟩;have o:=b.nxe (by decide);obtain⟨y,A,⟨q,r,s,t,u⟩,⟨k,l,m,n⟩⟩:=b.cells;go_wp2_with fail;refine bC 1 ?_;rw[aO];go_wp2_with fail;obtain⟨v,i⟩:∃v,iS (W/16777216) 0 0 0 0=v:=⟨_,rfl⟩;obtain⟨x,g⟩:∃x,jh (W/16777216) 0 0 0 0=x:=⟨_,rfl⟩;have c:=mQ (W:=W) i g;refine(mW b ht v x i g).mono ?_;rintro e z ⟨rfl,d⟩;obtain⟨y,A,⟨q,r,s,t,u⟩,⟨k,l,m,n⟩⟩:=d.cells;obtain⟨⟨H,I,J,K,L⟩,⟨B,C,D,E,F⟩⟩:=d.rcells;have j:=xN g;clear i g;have a:=d.bel;rcases j with rfl|rfl
 ·by_cases hvW:v=W
  ·subst hvW
   have f:=aa (c.trans (ax ⟨rfl,rfl⟩));clear c;go_wp2_with fail;exact aN (results_cell_row (p:=2) rfl _ _ (w.heap.size+1) 99 (fP (v/16777216) 0 0 0 0) (0,0) _ rfl (gJ d.hR _ _ _ _ _) underlying99 rfl (by kernel_rfl)) rfl ⟨by rw[f.out],gL a h.size _ _ _ _ _⟩
  ·have f:=aa (c.trans (ap λh=>hvW h.2))
   have G:(v != W)=true:=by simpa using hvW
   clear c hvW;go_wp2_with fail;exact aN (results_cell_row (p:=2) rfl _ _ (w.heap.size+1) 99 (fP 0 0 0 0 0) (0,0) _ rfl (gJ d.hR _ _ _ _ _) underlying99 rfl (by kernel_rfl)) rfl ⟨by rw[f.out],gL a h.size _ _ _ _ _⟩
 ·have f:=aa (c.trans (ap λh=>by have:=h.1;omega))
  clear c;go_wp2_with fail;exact aN (results_cell_row (p:=2) rfl _ _ (w.heap.size+1) 99 (fP 0 0 0 0 0) (0,0) _ rfl (gJ d.hR _ _ _ _ _) underlying99 rfl (by kernel_rfl)) rfl ⟨by rw[f.out],gL a h.size _ _ _ _ _⟩
theorem Mp (w0 w:World) (h:Below w0.heap.size w0 w) (ht:Tab w0) (W:Int) (hW0:0<=W) (hW1:W<4294967296) (hf:fm (W/16777216)=⟨#[105]⟩):
  Calls prog 36 #[.int .u32 W] w λe w'=>e=.returned (.agg (gu (W/16777216) 0 0 0 (sgv W 12) W))/\Below w0.heap.size w0 w':=by
 go_enter func36,ntmps36
 go_wp2_with fail;refine(kP w0 w W _ h ht _ hf).mono ?_;rintro e S ⟨rfl,j⟩;obtain⟨F,C,a⟩:=j.nx 1 0 105 rfl rfl (by decide) (by decide) (by decide);obtain⟨m,n,⟨t,u,y,A,B⟩,⟨o,q,r,s⟩⟩:=a.cells;go_wp2_with fail;refine bC 2 ?_;rw[aO];go_wp2_with fail;refine(lZ F w.heap.size (w.heap.size+1+1+1) W 12 m n hW0 hW1 (by omega)).mono ?_;rintro e R ⟨rfl,E,rfl⟩;have c:=a.put 4 (sgv W 12) E rfl;have D:=c.nxe (by decide);obtain⟨m,n,⟨t,u,y,A,B⟩,⟨o,q,r,s⟩⟩:=c.cells;go_wp2_with fail;rw[aO];go_wp2_with fail;obtain⟨v,k⟩:∃v,iS (W/16777216) 0 0 0 (sgv W 12)=v:=⟨_,rfl⟩;obtain⟨x,i⟩:∃x,jh (W/16777216) 0 0 0 (sgv W 12)=x:=⟨_,rfl⟩;have d:=mQ (W:=W) k i;refine(mW c ht v x k i).mono ?_;rintro e z ⟨rfl,f⟩;obtain⟨m,n,⟨t,u,y,A,B⟩,⟨o,q,r,s⟩⟩:=f.cells;obtain⟨⟨M,N,O,P,Q⟩,⟨G,H,I,J,K⟩⟩:=f.rcells;have l:=xN i;clear k i;have b:=f.bel;rcases l with rfl|rfl
 ·by_cases hvW:v=W
  ·subst hvW
   have g:=aa (d.trans (ax ⟨rfl,rfl⟩));clear d;go_wp2_with fail;exact aN (results_cell_row (p:=2) rfl _ _ (w.heap.size+1) 99 (fP (v/16777216) 0 0 0 (sgv v 12)) (0,0) _ rfl (gJ f.hR _ _ _ _ _) underlying99 rfl (by kernel_rfl)) rfl ⟨by rw[g.out],gL b h.size _ _ _ _ _⟩
  ·have g:=aa (d.trans (ap λh=>hvW h.2))
   have L:(v != W)=true:=by simpa using hvW
   clear d hvW;go_wp2_with fail;exact aN (results_cell_row (p:=2) rfl _ _ (w.heap.size+1) 99 (fP 0 0 0 0 0) (0,0) _ rfl (gJ f.hR _ _ _ _ _) underlying99 rfl (by kernel_rfl)) rfl ⟨by rw[g.out],gL b h.size _ _ _ _ _⟩
 ·have g:=aa (d.trans (ap λh=>by have:=h.1;omega))
  clear d;go_wp2_with fail;exact aN (results_cell_row (p:=2) rfl _ _ (w.heap.size+1) 99 (fP 0 0 0 0 0) (0,0) _ rfl (gJ f.hR _ _ _ _ _) underlying99 rfl (by kernel_rfl)) rfl ⟨by rw[g.out],gL b h.size _ _ _ _ _⟩
def jF (W:Int):Bool:=ir (fm (W/16777216)) 106
def sx (H M W:Int):Int:=if H<=W%M then W%M-M else W%M
def fA (W:Int):Int:=W/1048576%16
def fB (W:Int):Int:=if jF W=true then 0 else W/65536%16
def fC (W:Int):Int:=if jF W=true then 0 else W/4096%16
def fM (W:Int):Int:=if jF W=true then sx 524288 1048576 W else sx 2048 4096 W
def En (W:Int):Bool:=decide (jh (W/16777216) (fA W) (fB W) (fC W) (fM W)=0/\iS (W/16777216) (fA W) (fB W) (fC W) (fM W)=W)
def dO (W:Int):Int:=if En W=true then W/16777216 else 0
def dA (W:Int):Int:=if En W=true then fA W else 0
def dB (W:Int):Int:=if En W=true then fB W else 0
def dC (W:Int):Int:=if En W=true then fC W else 0
def dM (W:Int):Int:=if En W=true then fM W else 0
theorem Ks (W:Int):gu (W/16777216) (fA W) (fB W) (fC W) (fM W) W=fP (dO W) (dA W) (dB W) (dC W) (dM W):=by
 unfold gu dO dA dB dC dM
 by_cases h:jh (W/16777216) (fA W) (fB W) (fC W) (fM W)=0/\iS (W/16777216) (fA W) (fB W) (fC W) (fM W)=W
 ·have a:En W=true:=dr h
  rw[ax h,ax a,ax a,ax a,ax a,ax a]
 ·have a:¬En W=true:=λe=>h (bm e)
  rw[ap h,ap a,ap a,ap a,ap a,ap a]
theorem LN (W:Int):sgv W 12=sx 2048 4096 W:=by
 have a:tkv W 0 12=W%4096:=by unfold tkv;rw[show W/2^(0:Int).toNat=W from Int.ediv_one W];rfl
 have b:tkv W (12-1) 1=W/2048%2:=rfl;unfold sgv sx;rw[a,b,show(2:Int)^(12:Int).toNat=4096 from rfl];split<;>omega
theorem MR (W:Int):sgv W 20=sx 524288 1048576 W:=by
 have a:tkv W 0 20=W%1048576:=by unfold tkv;rw[show W/2^(0:Int).toNat=W from Int.ediv_one W];rfl
 have b:tkv W (20-1) 1=W/524288%2:=rfl;unfold sgv sx;rw[a,b,show(2:Int)^(20:Int).toNat=1048576 from rfl];split<;>omega
theorem zp:(jh op a b c m=0/\iS op a b c m=W)<->(mH op a b c m=true/\ez op a b c m=W):=by
 unfold jh iS
 by_cases h:mH op a b c m=true
 ·rw[ax h,ax h];exact⟨λx=>⟨h,x.2⟩,λx=>⟨rfl,x.2⟩⟩
 ·rw[ap h,ap h];exact⟨λx=>absurd x.1 (by omega),λx=>absurd x.1 h⟩
theorem gQ (ho:¬(1<=op/\op<=53)):gu op a b c m W=fP 0 0 0 0 0:=by
 unfold gu;rw[ap];rw[zp];intro h;have:=h.1;rw[CK ho]at this;cases this
theorem gR (h:¬(mH op a b c m=true/\ez op a b c m=W)):gu op a b c m W=fP 0 0 0 0 0:=ap (λe=>h (zp.1 e))
theorem Bf (hf:fm op=⟨#[97,105]⟩):ez op a b c m=op*16777216+a*1048576+b*65536+c*4096+(if m<0 then m+4096 else m):=by
 unfold ez xo;rw[hf];rfl
theorem Ij (W:Int) (_h0:0<=W) (_h1:W<4294967296) (hf:fm (W/16777216)=⟨#[97,105]⟩):gu (W/16777216) (tkv W 20 4) 0 0 (sgv W 12) W=gu (W/16777216) (fA W) (fB W) (fC W) (fM W) W:=by
 by_cases ho:1<=W/16777216/\W/16777216<=53
 ·have d:¬jF W=true:=by unfold jF;rw[hf];decide
  have n:fA W=W/1048576%16:=rfl;have o:fB W=W/65536%16:=ap d;have p:fC W=W/4096%16:=ap d;have r:fM W=sx 2048 4096 W:=ap d;rw[n,o,p,r];rw[LN];show gu (W/16777216) (W/1048576%16) 0 0 (sx 2048 4096 W) W=_;obtain⟨s,e⟩:∃s,sx 2048 4096 W=s:=⟨_,rfl⟩;have u:(2048<=W%4096/\s=W%4096-4096)\/(W%4096<2048/\s=W%4096):=by
   rw[<- e];unfold sx;split<;>omega
  rw[e];clear e;have v:=CM (a:=(W/1048576%16)) (b:=0) (c:=0) (m:=s) ho hf;have w:=CM (a:=(W/1048576%16)) (b:=(W/65536%16)) (c:=(W/4096%16)) (m:=s) ho hf;have y:=Bf (a:=(W/1048576%16)) (b:=0) (c:=0) (m:=s) hf;have z:=Bf (a:=(W/1048576%16)) (b:=(W/65536%16)) (c:=(W/4096%16)) (m:=s) hf
  by_cases g:mH (W/16777216) (W/1048576%16) 0 0 s=true/\ez (W/16777216) (W/1048576%16) 0 0 s=W
  ·have A:=v.1 g.1
   have t:=y.symm.trans g.2;have q:(W/1048576%16)=(W/1048576%16)/\(W/65536%16)=0/\(W/4096%16)=0/\s=s:=by
    split at t<;>omega
   obtain⟨i,j,k,l⟩:=q;rw[i,j,k,l]
  ·rw[gR g,gR]
   rintro⟨f,h⟩;have B:=w.1 f;have x:=z.symm.trans h;apply g;have q:(W/1048576%16)=(W/1048576%16)/\(W/65536%16)=0/\(W/4096%16)=0/\s=s:=by
    split at x<;>omega
   obtain⟨i,j,k,l⟩:=q;rw[i,j,k,l]at f h;exact⟨f,h⟩
 ·rw[gQ ho,gQ ho]
theorem Ii (W:Int) (_h0:0<=W) (_h1:W<4294967296) (hf:fm (W/16777216)=⟨#[97,106]⟩):gu (W/16777216) (tkv W 20 4) 0 0 (sgv W 20) W=gu (W/16777216) (fA W) (fB W) (fC W) (fM W) W:=by
 have a:jF W=true:=by unfold jF;rw[hf];rfl
 have b:fB W=0:=ax a;have c:fC W=0:=ax a;have d:fM W=sx 524288 1048576 W:=ax a;rw[b,c,d,MR];rfl
theorem ym (hf:fm op=⟨#[97,98,99]⟩):ez op a b c m=op*16777216+a*1048576+b*65536+c*4096+(if m<0 then m+4096 else m):=by
 unfold ez xo;rw[hf];rfl
theorem EX (W:Int) (_h0:0<=W) (_h1:W<4294967296) (hf:fm (W/16777216)=⟨#[97,98,99]⟩):gu (W/16777216) (tkv W 20 4) (tkv W 16 4) (tkv W 12 4) 0 W=gu (W/16777216) (fA W) (fB W) (fC W) (fM W) W:=by
 by_cases ho:1<=W/16777216/\W/16777216<=53
 ·have d:¬jF W=true:=by unfold jF;rw[hf];decide
  have n:fA W=W/1048576%16:=rfl;have o:fB W=W/65536%16:=ap d;have p:fC W=W/4096%16:=ap d;have r:fM W=sx 2048 4096 W:=ap d;rw[n,o,p,r]
  skip
  show gu (W/16777216) (W/1048576%16) (W/65536%16) (W/4096%16) 0 W=_;obtain⟨s,e⟩:∃s,sx 2048 4096 W=s:=⟨_,rfl⟩;have u:(2048<=W%4096/\s=W%4096-4096)\/(W%4096<2048/\s=W%4096):=by
   rw[<- e];unfold sx;split<;>omega
  rw[e];clear e;have v:=xe (a:=(W/1048576%16)) (b:=(W/65536%16)) (c:=(W/4096%16)) (m:=0) ho hf;have w:=xe (a:=(W/1048576%16)) (b:=(W/65536%16)) (c:=(W/4096%16)) (m:=s) ho hf;have y:=ym (a:=(W/1048576%16)) (b:=(W/65536%16)) (c:=(W/4096%16)) (m:=0) hf;have z:=ym (a:=(W/1048576%16)) (b:=(W/65536%16)) (c:=(W/4096%16)) (m:=s) hf
  by_cases g:mH (W/16777216) (W/1048576%16) (W/65536%16) (W/4096%16) 0=true/\ez (W/16777216) (W/1048576%16) (W/65536%16) (W/4096%16) 0=W
  ·have A:=v.1 g.1
   have t:=y.symm.trans g.2;have q:(W/1048576%16)=(W/1048576%16)/\(W/65536%16)=(W/65536%16)/\(W/4096%16)=(W/4096%16)/\s=0:=by
    split at t<;>omega
   obtain⟨i,j,k,l⟩:=q;rw[i,j,k,l]
  ·rw[gR g,gR]
   rintro⟨f,h⟩;have B:=w.1 f;have x:=z.symm.trans h;apply g;have q:(W/1048576%16)=(W/1048576%16)/\(W/65536%16)=(W/65536%16)/\(W/4096%16)=(W/4096%16)/\s=0:=by
    split at x<;>omega
   obtain⟨i,j,k,l⟩:=q;rw[i,j,k,l]at f h;exact⟨f,h⟩
 ·rw[gQ ho,gQ ho]
theorem yl (hf:fm op=⟨#[97,98,105]⟩):ez op a b c m=op*16777216+a*1048576+b*65536+c*4096+(if m<0 then m+4096 else m):=by
 unfold ez xo;rw[hf];rfl
theorem EW (W:Int) (_h0:0<=W) (_h1:W<4294967296) (hf:fm (W/16777216)=⟨#[97,98,105]⟩):gu (W/16777216) (tkv W 20 4) (tkv W 16 4) 0 (sgv W 12) W=gu (W/16777216) (fA W) (fB W) (fC W) (fM W) W:=by
 by_cases ho:1<=W/16777216/\W/16777216<=53
 ·have d:¬jF W=true:=by unfold jF;rw[hf];decide
  have n:fA W=W/1048576%16:=rfl;have o:fB W=W/65536%16:=ap d;have p:fC W=W/4096%16:=ap d;have r:fM W=sx 2048 4096 W:=ap d;rw[n,o,p,r];rw[LN];show gu (W/16777216) (W/1048576%16) (W/65536%16) 0 (sx 2048 4096 W) W=_;obtain⟨s,e⟩:∃s,sx 2048 4096 W=s:=⟨_,rfl⟩;have u:(2048<=W%4096/\s=W%4096-4096)\/(W%4096<2048/\s=W%4096):=by
   rw[<- e];unfold sx;split<;>omega
  rw[e];clear e;have v:=xd (a:=(W/1048576%16)) (b:=(W/65536%16)) (c:=0) (m:=s) ho hf;have w:=xd (a:=(W/1048576%16)) (b:=(W/65536%16)) (c:=(W/4096%16)) (m:=s) ho hf;have y:=yl (a:=(W/1048576%16)) (b:=(W/65536%16)) (c:=0) (m:=s) hf;have z:=yl (a:=(W/1048576%16)) (b:=(W/65536%16)) (c:=(W/4096%16)) (m:=s) hf
  by_cases g:mH (W/16777216) (W/1048576%16) (W/65536%16) 0 s=true/\ez (W/16777216) (W/1048576%16) (W/65536%16) 0 s=W
  ·have A:=v.1 g.1
   have t:=y.symm.trans g.2;have q:(W/1048576%16)=(W/1048576%16)/\(W/65536%16)=(W/65536%16)/\(W/4096%16)=0/\s=s:=by
    split at t<;>omega
   obtain⟨i,j,k,l⟩:=q;rw[i,j,k,l]
  ·rw[gR g,gR]
   rintro⟨f,h⟩;have B:=w.1 f;have x:=z.symm.trans h;apply g;have q:(W/1048576%16)=(W/1048576%16)/\(W/65536%16)=(W/65536%16)/\(W/4096%16)=0/\s=s:=by
    split at x<;>omega
   obtain⟨i,j,k,l⟩:=q;rw[i,j,k,l]at f h;exact⟨f,h⟩
 ·rw[gQ ho,gQ ho]
theorem Bg (hf:fm op=⟨#[97,98]⟩):ez op a b c m=op*16777216+a*1048576+b*65536+c*4096+(if m<0 then m+4096 else m):=by
 unfold ez xo;rw[hf];rfl
theorem Ik (W:Int) (_h0:0<=W) (_h1:W<4294967296) (hf:fm (W/16777216)=⟨#[97,98]⟩):gu (W/16777216) (tkv W 20 4) (tkv W 16 4) 0 0 W=gu (W/16777216) (fA W) (fB W) (fC W) (fM W) W:=by
 by_cases ho:1<=W/16777216/\W/16777216<=53
 ·have d:¬jF W=true:=by unfold jF;rw[hf];decide
  have n:fA W=W/1048576%16:=rfl;have o:fB W=W/65536%16:=ap d;have p:fC W=W/4096%16:=ap d;have r:fM W=sx 2048 4096 W:=ap d;rw[n,o,p,r]
  skip
  show gu (W/16777216) (W/1048576%16) (W/65536%16) 0 0 W=_;obtain⟨s,e⟩:∃s,sx 2048 4096 W=s:=⟨_,rfl⟩;have u:(2048<=W%4096/\s=W%4096-4096)\/(W%4096<2048/\s=W%4096):=by
   rw[<- e];unfold sx;split<;>omega
  rw[e];clear e;have v:=CN (a:=(W/1048576%16)) (b:=(W/65536%16)) (c:=0) (m:=0) ho hf;have w:=CN (a:=(W/1048576%16)) (b:=(W/65536%16)) (c:=(W/4096%16)) (m:=s) ho hf;have y:=Bg (a:=(W/1048576%16)) (b:=(W/65536%16)) (c:=0) (m:=0) hf;have z:=Bg (a:=(W/1048576%16)) (b:=(W/65536%16)) (c:=(W/4096%16)) (m:=s) hf
  by_cases g:mH (W/16777216) (W/1048576%16) (W/65536%16) 0 0=true/\ez (W/16777216) (W/1048576%16) (W/65536%16) 0 0=W
  ·have A:=v.1 g.1
   have t:=y.symm.trans g.2;have q:(W/1048576%16)=(W/1048576%16)/\(W/65536%16)=(W/65536%16)/\(W/4096%16)=0/\s=0:=by
    split at t<;>omega
   obtain⟨i,j,k,l⟩:=q;rw[i,j,k,l]
  ·rw[gR g,gR]
   rintro⟨f,h⟩;have B:=w.1 f;have x:=z.symm.trans h;apply g;have q:(W/1048576%16)=(W/1048576%16)/\(W/65536%16)=(W/65536%16)/\(W/4096%16)=0/\s=0:=by
    split at x<;>omega
   obtain⟨i,j,k,l⟩:=q;rw[i,j,k,l]at f h;exact⟨f,h⟩
 ·rw[gQ ho,gQ ho]
theorem Gp (hf:fm op=⟨#[]⟩):ez op a b c m=op*16777216+a*1048576+b*65536+c*4096+(if m<0 then m+4096 else m):=by
 unfold ez xo;rw[hf];rfl
theorem Kc (W:Int) (_h0:0<=W) (_h1:W<4294967296) (hf:fm (W/16777216)=⟨#[]⟩):gu (W/16777216) 0 0 0 0 W=gu (W/16777216) (fA W) (fB W) (fC W) (fM W) W:=by
 by_cases ho:1<=W/16777216/\W/16777216<=53
 ·have d:¬jF W=true:=by unfold jF;rw[hf];decide
  have n:fA W=W/1048576%16:=rfl;have o:fB W=W/65536%16:=ap d;have p:fC W=W/4096%16:=ap d;have r:fM W=sx 2048 4096 W:=ap d;rw[n,o,p,r]
  skip
  show gu (W/16777216) 0 0 0 0 W=_;obtain⟨s,e⟩:∃s,sx 2048 4096 W=s:=⟨_,rfl⟩;have u:(2048<=W%4096/\s=W%4096-4096)\/(W%4096<2048/\s=W%4096):=by
   rw[<- e];unfold sx;split<;>omega
  rw[e];clear e;have v:=IY (a:=0) (b:=0) (c:=0) (m:=0) ho hf;have w:=IY (a:=(W/1048576%16)) (b:=(W/65536%16)) (c:=(W/4096%16)) (m:=s) ho hf;have y:=Gp (a:=0) (b:=0) (c:=0) (m:=0) hf;have z:=Gp (a:=(W/1048576%16)) (b:=(W/65536%16)) (c:=(W/4096%16)) (m:=s) hf
  by_cases g:mH (W/16777216) 0 0 0 0=true/\ez (W/16777216) 0 0 0 0=W
  ·have A:=v.1 g.1
   have t:=y.symm.trans g.2;have q:(W/1048576%16)=0/\(W/65536%16)=0/\(W/4096%16)=0/\s=0:=by
    split at t<;>omega
   obtain⟨i,j,k,l⟩:=q;rw[i,j,k,l]
  ·rw[gR g,gR]
   rintro⟨f,h⟩;have B:=w.1 f;have x:=z.symm.trans h;apply g;have q:(W/1048576%16)=0/\(W/65536%16)=0/\(W/4096%16)=0/\s=0:=by
    split at x<;>omega
   obtain⟨i,j,k,l⟩:=q;rw[i,j,k,l]at f h;exact⟨f,h⟩
 ·rw[gQ ho,gQ ho]
theorem Gn (hf:fm op=⟨#[105]⟩):ez op a b c m=op*16777216+a*1048576+b*65536+c*4096+(if m<0 then m+4096 else m):=by
 unfold ez xo;rw[hf];rfl
theorem Kb (W:Int) (_h0:0<=W) (_h1:W<4294967296) (hf:fm (W/16777216)=⟨#[105]⟩):gu (W/16777216) 0 0 0 (sgv W 12) W=gu (W/16777216) (fA W) (fB W) (fC W) (fM W) W:=by
 by_cases ho:1<=W/16777216/\W/16777216<=53
 ·have d:¬jF W=true:=by unfold jF;rw[hf];decide
  have n:fA W=W/1048576%16:=rfl;have o:fB W=W/65536%16:=ap d;have p:fC W=W/4096%16:=ap d;have r:fM W=sx 2048 4096 W:=ap d;rw[n,o,p,r];rw[LN];show gu (W/16777216) 0 0 0 (sx 2048 4096 W) W=_;obtain⟨s,e⟩:∃s,sx 2048 4096 W=s:=⟨_,rfl⟩;have u:(2048<=W%4096/\s=W%4096-4096)\/(W%4096<2048/\s=W%4096):=by
   rw[<- e];unfold sx;split<;>omega
  rw[e];clear e;have v:=IX (a:=0) (b:=0) (c:=0) (m:=s) ho hf;have w:=IX (a:=(W/1048576%16)) (b:=(W/65536%16)) (c:=(W/4096%16)) (m:=s) ho hf;have y:=Gn (a:=0) (b:=0) (c:=0) (m:=s) hf;have z:=Gn (a:=(W/1048576%16)) (b:=(W/65536%16)) (c:=(W/4096%16)) (m:=s) hf
  by_cases g:mH (W/16777216) 0 0 0 s=true/\ez (W/16777216) 0 0 0 s=W
  ·have A:=v.1 g.1
   have t:=y.symm.trans g.2;have q:(W/1048576%16)=0/\(W/65536%16)=0/\(W/4096%16)=0/\s=s:=by
    split at t<;>omega
   obtain⟨i,j,k,l⟩:=q;rw[i,j,k,l]
  ·rw[gR g,gR]
   rintro⟨f,h⟩;have B:=w.1 f;have x:=z.symm.trans h;apply g;have q:(W/1048576%16)=0/\(W/65536%16)=0/\(W/4096%16)=0/\s=s:=by
    split at x<;>omega
   obtain⟨i,j,k,l⟩:=q;rw[i,j,k,l]at f h;exact⟨f,h⟩
 ·rw[gQ ho,gQ ho]
theorem G0 (w0 w:World) (h:Below w0.heap.size w0 w) (ht:Tab w0) (W:Int) (hW0:0<=W) (hW1:W<4294967296):
  Calls prog 36 #[.int .u32 W] w λe w'=>e=.returned (.agg (fP (dO W) (dA W) (dB W) (dC W) (dM W)))/\Below w0.heap.size w0 w':=by
 rw[<- Ks];rcases kL (W/16777216)with a|a|a|a|a|a|a
 ·rw[<- Ij W hW0 hW1 a];exact Lc w0 w h ht W hW0 hW1 a
 ·rw[<- Ii W hW0 hW1 a];exact Lb w0 w h ht W hW0 hW1 a
 ·rw[<- EX W hW0 hW1 a];exact Jw w0 w h ht W hW0 hW1 a
 ·rw[<- EW W hW0 hW1 a];exact Jv w0 w h ht W hW0 hW1 a
 ·rw[<- Ik W hW0 hW1 a];exact Ld w0 w h ht W hW0 hW1 a
 ·rw[<- Kc W hW0 hW1 a];exact Mq w0 w h ht W hW0 hW1 a
 ·rw[<- Kb W hW0 hW1 a];exact Mp w0 w h ht W hW0 hW1 a
theorem Dy (h:jh op a b c m=0):mH op a b c m=true:=by
 unfold jh at h;split at h
 ·assumption
 ·omega
theorem Dz (W:Int):(En W=true/\1<=dO W/\dO W=W/16777216/\jh (dO W) (dA W) (dB W) (dC W) (dM W)=0/\iS (dO W) (dA W) (dB W) (dC W) (dM W)=W) \/
  (En W=false/\dO W=0/\dA W=0/\dB W=0/\dC W=0/\dM W=0):=by
 by_cases hg:En W=true
 ·left
  have a:=bm hg;have b:dO W=W/16777216:=ax hg;have c:dA W=fA W:=ax hg;have d:dB W=fB W:=ax hg;have e:dC W=fC W:=ax hg;have f:dM W=fM W:=ax hg;rw[b,c,d,e,f];exact⟨hg,(CL (Dy a.1)).1.1,rfl,a.1,a.2⟩
 ·right
  exact⟨by simpa using hg,ap hg,ap hg,ap hg,ap hg,ap hg⟩
end
end Go.Proofs.YtbeaaimcpkogcaaGreatDoor
