/- Lemmas on the way to the claim. -/
import Derived.Test.YtbeaaimcpkogcaaGreatDoorM14
import Derived.Test.YtbeaaimcpkogcaaGreatDoorM20
import Derived.Test.YtbeaaimcpkogcaaGreatDoorM26
set_option linter.unusedSimpArgs false
set_option linter.unusedVariables false
set_option maxHeartbeats 4000000
set_option maxRecDepth 100000
namespace Go.Proofs.YtbeaaimcpkogcaaGreatDoor
open Go.Proofs.Tryz Go.RowKit
variable {u w z:World} {v y0 y1 y2 y3 y4 y5 y6 y7:Value} {xs:List (List UInt8)} {B g:Nat}
section
open Go.Sort
abbrev Pow (w : World) : Prop := Lib.TabIs prog w "internal/strconv.uint64pow10" .u64 Lib.pow10Tab
theorem eE (h:Pow w) (hb:Below w.heap.size w u):Pow u:=Lib.tabBelow_of_tabIs h u hb
theorem rU (w:World) (k:Nat) (os:Array Obj):Below w.heap.size w (grow (w.drewN k) os):=
 ⟨rfl,rfl,rfl,by show w.heap.size<=(w.heap++os).size;simp,λi hi=>Lib.heap_grow_old w k os i hi⟩
theorem F3 (w:World) (e:TypeId) (s:ByteArray):Below w.heap.size w (Lib.bytesWorld w e s):=
 ⟨rfl,rfl,rfl,by rw[Lib.bytesWorld_size];omega,λj hj=>Lib.bytesWorld_at_old w e s j hj⟩
def Ba (w:World) (v:Value) (xs:List (List UInt8)):Prop:=∃g c,v=.slice (some ⟨g,0,none⟩) xs.length c/\xs.length<=c/\g<w.heap.size/\∀(j:Nat) x,xs[j]?=some x->w.cell? ⟨g,j,none⟩=some (.string ⟨x.toArray⟩)
theorem Ba.below (h:Ba w v xs) (hb:Below w.heap.size w u):Ba u v xs:=by
 obtain⟨g,c,b,d,a,e⟩:=h;exact⟨g,c,b,d,bu a hb.size,λj x hj=>(hb.cell a).trans (e j x hj)⟩
theorem F5 (W:World) (x:Nat):Calls prog 84 #[.int .i32 x] W λe w'=>e=.returned (.bool (iX x))/\w'=W:=by
 have a:((x:Int)==32)=iX x:=by
  unfold iX
  by_cases h:x=32
  ·subst h;rfl
  ·rw[bS.2 (show(x:Int)≠32 by omega)];exact(bS.2 h).symm
 go_enter func84,ntmps84
 go_wp2_with fail;go_ret;exact⟨by rw[<- a];rfl,rfl⟩
theorem xX (w:World):PredAtRunes prog 84 #[] iX w:=λW x _ _=>(F5 W x).mono λe w' ⟨he,hw⟩=>⟨he,0,hw⟩
theorem um (w:World) (s:ByteArray) (hs:s.size<=4294967296):
  Calls prog 34 #[.string s] w λe w'=>Below w.heap.size w w'/\∃A,e=.returned (.slice (some ⟨A,0,none⟩) (Lib.goFieldsP iX s).length (Lib.goFieldsP iX s).length) /\
   w'.ownsRow w.heap.size 9 1 (.slice (some ⟨A,0,none⟩) (Lib.goFieldsP iX s).length (Lib.goFieldsP iX s).length) (Lib.goFieldsP iX s).length ((Lib.goFieldsP iX s).map Value.string):=by
 have H:=aa (Tryz.strings_FieldsFunc_runes 84 #[] (λargs u=>by kernel_rfl) iX s w hs (xX w));generalize Lib.goFieldsP iX s=F at H ⊢
 go_enter func34,ntmps34
 go_wp2_with fail;refine H.mono ?_;rintro e u ⟨A,rfl,f,b,a⟩;have c:=aa a;have d:=aa b;clear a b H;go_wp2_with fail;go_ret;exact⟨c.out,A,rfl,d.out⟩
theorem rH (w:World) (W:Int) (h0:0<=W) (h1:W<4294967296):
  Calls prog 34 #[.string ⟨(dP W).toArray⟩] w λe w'=>Below w.heap.size w w'/\∃v,e=.returned v/\Ba w' v (dJ W):=by
 have c:=lY W h0 h1;have d:(⟨(dP W).toArray⟩:ByteArray).size=(dP W).length:=rfl;refine(um w ⟨(dP W).toArray⟩ (by rw[d];omega)).mono ?_;rintro e u ⟨b,A,rfl,a⟩;rw[xF]at a ⊢;simp only[be]at a ⊢;refine⟨b,_,rfl,A,_,rfl,ag _,wT a rfl,λj x hj=>?_⟩;have c:=(aE.1 hj).1;rw[a.cellAt j (by omega),List.map_map,aG,hj];rfl
theorem zZ (w:World):Calls prog 34 #[.string ⟨#[]⟩] w λe w'=>Below w.heap.size w w'/\∃A,e=.returned (.slice A 0 0):=by
 refine(um w ⟨#[]⟩ (by decide)).mono ?_;rintro e u ⟨a,A,rfl,b⟩;exact⟨a,_,rfl⟩
theorem zi (w:World) (v:Value) (xs:List (List UInt8)) (h:Ba w v xs) (hN:xs.length<=1000) (hl:(Lib.join xs [32]).length<=100000):
  Calls prog 37 #[v] w λe w'=>e=.returned (.string ⟨(Lib.join xs [32]).toArray⟩)/\Below w.heap.size w w':=by
 obtain⟨g,c,rfl,l,i,a⟩:=h;have H:=aa (Tryz.strings_Join g 0 c (xs.map λx=>(⟨x.toArray⟩:ByteArray)) ⟨#[32]⟩ w (λj x hj=>by
  rw[aG]at hj;obtain⟨y,k,rfl⟩:=Option.map_eq_some_iff.1 hj;rw[cA];exact a j y k) i (by rw[be];omega) (by rw[be];omega) (by
   rw[List.map_map];have:((λx:ByteArray=>x.data.toList)∘λx:List UInt8=>(⟨x.toArray⟩:ByteArray))=id:=by funext x;rfl
   rw[this,List.map_id];show(Lib.join xs [32]).length<=_;omega))
 have b:Lib.join ((xs.map λx=>(⟨x.toArray⟩:ByteArray)).map λx=>x.data.toList) (⟨#[32]⟩:ByteArray).data.toList=Lib.join xs [32]:=by
  rw[List.map_map];have:((λx:ByteArray=>x.data.toList)∘λx:List UInt8=>(⟨x.toArray⟩:ByteArray))=id:=by funext x;rfl
  rw[this,List.map_id]
 rw[b,be]at H;clear a b
 go_enter func37,ntmps37
 go_wp2_with fail;refine H.mono ?_;rintro e u ⟨rfl,d⟩;have f:=aa d;clear d H;go_wp2_with fail;go_ret;exact⟨rfl,f.out⟩
theorem nG (w:World) (hpow:Pow w) (n:Int) (h0 : -1099511627776<n) (h1:n<1099511627776):
  Calls prog 85 #[.string ⟨(Lib.itoa n).toArray⟩] w λe w'=>e=.returned (.tuple #[.int .i64 n,.bool true])/\Below w.heap.size w w':=by
 have a:(⟨(Lib.itoa n).toArray⟩:ByteArray).size<=9223372036854775806:=by
  have:=nQ 12 n (by omega);show(Lib.itoa n).toArray.size<=_;simp;omega
 have d:Hid (Calls prog 137 #[.string ⟨(Lib.itoa n).toArray⟩,.int .i64 10,.int .i64 64] w λe w'=>e=.returned (.tuple #[.int .i64 n,.nilIface])/\Hid (Below w.heap.size w w')):=
  (Tryz.strconv_ParseInt_10_at64_ok ⟨(Lib.itoa n).toArray⟩ a n (AI n h0 h1) w).mono (by
   rintro e w' ⟨rfl,rfl|⟨t,rfl⟩⟩
   ·exact⟨rfl,ai _ _⟩
   ·exact⟨rfl,F3 _ _ _⟩)
 have c:Hid (∀u,Below w.heap.size w u->Calls prog 138 #[.int .i64 n,.int .i64 10] u λe w'=>e=.returned (.string ⟨(Lib.itoa n).toArray⟩)/\Hid (Below u.heap.size u w')):=λu hu =>
  (Tryz.strconv_FormatInt_10 n (by omega) (by omega) u (eE hpow hu)).mono (by
   rintro e w' ⟨rfl,k,o,rfl⟩;exact⟨rfl,rU _ _ _⟩)
 have l:((⟨(Lib.itoa n).toArray⟩:ByteArray)==⟨(Lib.itoa n).toArray⟩)=true:=by show((Lib.itoa n).toArray==(Lib.itoa n).toArray)=true;exact beq_self_eq_true _
 have m:IntKind.i64.wrap n=n:=lf (by omega) (by omega);generalize(⟨(Lib.itoa n).toArray⟩:ByteArray)=t at *;clear a hpow
 go_enter func85,ntmps85
 go_wp2_with fail;refine d.mono ?_;rintro e u ⟨rfl,g⟩;have b:=aa g.out;have j:=aa (c.out u.drew b.drew);have f:=aa (c.out u b.out);clear g d c;go_wp2_with fail;refine f.mono ?_;rintro e z ⟨rfl,h⟩;have i:=aa (b.trans (h.out.mono b.size));clear h f;go_wp2_with fail;go_ret2;exact⟨rfl,i.out⟩
theorem lw (w:World) (hpow:Pow w) (a:Int) (h0:0<=a) (h1:a<=15):
  Calls prog 87 #[.string ⟨(sI a).toArray⟩] w λe w'=>e=.returned (.tuple #[.int .i64 a,.bool true])/\Below w.heap.size w w':=by
 have h:Lib.trimPrefix (sI a) [99]=Lib.itoa a:=by unfold sI Lib.trimPrefix Lib.hasPrefix;simp[List.isPrefixOf]
 have g:Lib.hasPrefix (sI a) [99]=true:=by unfold sI Lib.hasPrefix;simp[List.isPrefixOf]
 have b:=aa (Tryz.strings_TrimPrefix ⟨(sI a).toArray⟩ ⟨#[99]⟩ w);rw[show(⟨(sI a).toArray⟩:ByteArray).data.toList=sI a from rfl,show(⟨#[99]⟩:ByteArray).data.toList=[99] from rfl,h]at b;have c:=aa (nG w hpow a (by omega) (by omega));have d:Hid (∀u,Calls prog 51 #[.string ⟨(sI a).toArray⟩,.string ⟨#[99]⟩] u λe w'=>e=.returned (.bool true)/\w'=u):=λu=>(Tryz.strings_HasPrefix ⟨(sI a).toArray⟩ ⟨#[99]⟩ u).mono (by
  rintro e w' ⟨rfl,rfl⟩;rw[show(⟨(sI a).toArray⟩:ByteArray).data.toList=sI a from rfl,show(⟨#[99]⟩:ByteArray).data.toList=[99] from rfl,g];exact⟨rfl,rfl⟩)
 have k:decide (0<=a)=true:=dr h0;have l:decide (a<16)=true:=dr (by omega);generalize(⟨(sI a).toArray⟩:ByteArray)=R at *;generalize(⟨(Lib.itoa a).toArray⟩:ByteArray)=t at *;clear h g hpow
 go_enter func87,ntmps87
 go_wp2_with fail;refine b.mono ?_;rintro e u ⟨rfl,rfl⟩;go_wp2_with fail;refine c.mono ?_;rintro e u ⟨rfl,f⟩;have j:=aa f;have i:=aa (d.out u);clear f b c d;go_wp2_with fail;refine i.mono ?_;rintro e z ⟨rfl,rfl⟩;go_wp2_with fail;go_ret2;exact⟨rfl,j.out⟩
end
theorem KP:(Tryz.prog.info? 9).map (λi=>(i.zero,i.size,i.bytes))=some (some (.string ⟨#[]⟩),1,16):=by kernel_rfl
theorem ph (W:Int):∀u∈di W,u=97\/u=98\/u=99\/u=105\/u=106:=by
 unfold di;rcases kL (dO W)with a|a|a|a|a|a|a<;>rw[a]<;>simp
theorem EE (l:List (List UInt8)) (t:List UInt8):txs (l++[t])=txs l++[.string ⟨t.toArray⟩]:=by unfold txs;simp
theorem Af (h:w.ownsRow B 9 1 v xs.length (txs xs)) (h1:1<=xs.length):Ba w v xs:=by
 rcases h.2 with⟨_,f⟩|⟨g,a,b,e,i,d,c,_⟩
 ·omega
 ·subst e
  refine⟨g,a,rfl,c,ab d,λj x hj=>?_⟩;have k:=(aE.1 hj).1;rw[h.cellAt j (by omega)];unfold txs;rw[aG,hj];rfl
theorem IR (z:World) (a b:List UInt8):Ba (z.alloc (.cells #[.string ⟨a.toArray⟩,.string ⟨b.toArray⟩] 9)) (.slice (some ⟨z.heap.size,0,none⟩) 2 2) [a,b]:=by
 have hn:(z.alloc (.cells #[.string ⟨a.toArray⟩,.string ⟨b.toArray⟩] 9)).heap[z.heap.size]?=_:=af _ _;refine⟨z.heap.size,2,rfl,ag _,by rw[ah];omega,λj x hj=>?_⟩
 match j,hj with
 | 0,hj=>simp at hj;subst hj;exact(ae hn 0).trans rfl
 | 1,hj=>simp at hj;subst hj;exact(ae hn 1).trans rfl
theorem Cg (w:World) (n:Nat) (hn:n<4294967296) (ht:Tab w) (hpow:Pow w) (h:dO (n:Int)=0):
  Calls prog 11 #[.int .u32 n] w λe w'=>e=.returned (.string ⟨(dP n).toArray⟩)/\Below w.heap.size w w':=by
 have r:=lY n (by omega) (by omega);have m:dJ n=[sr,Lib.decDigits n]:=by
  have:Lib.itoa (n:Int)=Lib.decDigits n:=by unfold Lib.itoa;rw[ap (by omega)];rfl
  unfold dJ;rw[ax h,this]
 have k:dP n=Lib.join [sr,Lib.decDigits n] [32]:=by unfold dP;rw[m]
 have a:=aa (G0 w w (ai _ _) ht n (by omega) (by omega));unfold fP at a;rw[h]at a;have j:=aa λu (g:Below w.heap.size w u)=>Di n (by omega) u (eE hpow g);have d:=aa λz=>zi (z.alloc (.cells #[.string ⟨#[119,111,114,100]⟩,.string ⟨(Lib.decDigits n).toArray⟩] 9)) _ _ (IR z sr (Lib.decDigits n)) (by simp) (by rw[<- k];omega);rw[<- k]at d;generalize dP n=T at d;generalize(⟨(Lib.decDigits n).toArray⟩:ByteArray)=D at j d;generalize dA (n:Int)=fa at a;generalize dB (n:Int)=fb at a;generalize dC (n:Int)=fc at a;generalize dM (n:Int)=fm at a;clear r m k hpow h
 go_enter func11,ntmps11
 go_wp2_with fail;refine a.mono ?_;rintro e u ⟨rfl,g⟩;have b:=g.alloc g.size (.cells #[.int .i64 0,.int .i64 fa,.int .i64 fb,.int .i64 fc,.int .i64 fm] 99);have c:=aa (j.out _ b);have l:=aa b;clear g b a j;go_wp2_with fail;refine c.mono ?_;rintro e z ⟨rfl,p⟩;have i:=aa (l.trans (p.mono l.size));have f:=aa (d.out z);clear p c d;go_wp2_with fail;refine f.mono ?_;rintro e y ⟨rfl,o⟩;have q:=aa ((i.alloc i.size _).trans (o.mono (i.alloc i.size _).size));clear o f;go_wp2_with fail;go_ret;exact⟨rfl,q.out⟩
section
open Go.Sort
structure PrS (w0 w:World) (W:Int) (I D n p:Nat) (v:Value):Prop where
 bel:Below w0.heap.size w0 w
 own:w.ownsRow (I+1) 9 1 v (n+1) (txs (opT W::((di W).take n).map (dg W)))
 it:w.heap[D]?=some (.stringIter (fm (dO W)) p)
 ins:w.heap[I]?=some (.cells (fP (dO W) (dA W) (dB W) (dC W) (dM W)) 99 (0,0))
 ge:w0.heap.size<=I
 lt:I<D
section
variable {w0 w u q w1:World} {W:Int} {I D n p:Nat} {v v':Value}
theorem PrS.next (h:PrS w0 w W I D n p v) (p':Nat):PrS w0 (w.iterAt D (fm (dO W)) p') W I D n p' v:=
 ⟨pr h.bel (by have:=h.ge;have:=h.lt;omega) _ _,own_iterAt h.own h.it p',rA _ _ _ _ _ h.it,(Lib.iterAt_other _ _ _ _ _ (by have:=h.lt;omega)).trans h.ins,h.ge,h.lt⟩
theorem PrS.below (h:PrS w0 w W I D n p v) (hb:Below w.heap.size w u):PrS w0 u W I D n p v:=
 ⟨h.bel.trans (hb.mono h.bel.size),du h.own (Chg.of_below (S:=λ_=>False) hb) λ_ _=>id,(hb.block D (ab h.it)).trans h.it,(hb.block I (ab h.ins)).trans h.ins,h.ge,h.lt⟩
theorem PrS.app (h:PrS w0 q W I D n p v) {x:UInt8} (hx:(di W)[n]?=some x) {o:Obj} (hg:(q.alloc o).grownBy w1 v.ownBlock) (hown:w1.ownsRow (I+1) 9 1 v' (n+1+1) (txs (opT W::((di W).take n).map (dg W))++[.string ⟨(dg W x).toArray⟩])):PrS w0 w1 W I D (n+1) p v':=by
 have a:Chg (λk=>v.ownBlock=some k) q w1:=((Chg.refl _ q).alloc o).grown hg λk hk _=>hk;have b:∀k,v.ownBlock=some k->I+1<=k:=λk hk=>cG h.own k hk;have i:=h.ge;have j:=h.bel.size;have f:¬v.ownBlock=some D:=λe=>by
  obtain⟨d,g,c⟩:=bG h.own e;rw[h.it]at c;cases c
 refine⟨h.bel.trans ⟨a.os,a.tape,a.output,a.size,λk hk=>a.block k (by omega) λe=>by have:=b k e;omega⟩,?_,(a.block D (ab h.it) f).trans h.it,(a.block I (ab h.ins) λe=>by have:=b I e;omega).trans h.ins,h.ge,h.lt⟩;rw[bT,hx,cy,dT,<- bB,dX,kW,EE];exact hown
end
theorem FE (w:World) (hpow:Pow w) (n:Int) (h0 : -1099511627776<n) (h1:n<1099511627776):
  Calls prog 41 #[.int .i64 n] w λe w'=>e=.returned (.string ⟨(Lib.itoa n).toArray⟩)/\Below w.heap.size w w':=
 (Tryz.strconv_Itoa n (by omega) (by omega) w hpow).mono (by
  rintro e w' ⟨rfl,k,a,rfl⟩;exact⟨rfl,rU _ _ _⟩)
theorem An (w:World) (W:Int) (h0:0<=W) (h1:W<4294967296) (ht:Tab w) (hpow:Pow w) (h:dO W≠0):
  Calls prog 11 #[.int .u32 W] w λe w'=>e=.returned (.string ⟨(dP W).toArray⟩)/\Below w.heap.size w w':=by
 have hl:=lY W h0 h1;have ew:dJ W=opT W::(di W).map (dg W):=ap h;have a7:(dO W==(0:Int))=false:=by simpa using h
 obtain⟨i0,hi,A,B,C⟩:=cX KP;have HD:=aa (G0 w w (ai _ _) ht W h0 h1);unfold fP at HD;have HN:=aa λu (N:Below w.heap.size w u)=>CF u u (ai _ _) (ht.below N) (dO W);have HF:=aa λu (N:Below w.heap.size w u)=>tv u u (ai _ _) (ht.below N) (dO W);have HL:=aa hl;have HW:=aa ew;have HP:=aa hpow;clear hl ew hpow ht
 go_enter func11,ntmps11
 go_wp2_with fail;refine HD.mono ?_;rintro e u ⟨rfl,N⟩;have V:=N.alloc N.size (.cells #[.int .i64 (dO W),.int .i64 (dA W),.int .i64 (dB W),.int .i64 (dC W),.int .i64 (dM W)] 99);have O:=aa (HN.out _ V);have HU:=aa V;have a1:=aa N.size;clear N V HD HN;go_wp2_with fail;have hI:(u.alloc (.cells #[.int .i64 (dO W),.int .i64 (dA W),.int .i64 (dB W),.int .i64 (dC W),.int .i64 (dM W)] 99)).heap[u.heap.size]?=some (.cells (fP (dO W) (dA W) (dB W) (dC W) (dM W)) 99 (0,0)):=af _ _;have HI:=aa hI;have HG:=aa (show w.heap.size<=u.heap.size from a1.out);clear hI a1;generalize u.alloc (.cells #[.int .i64 (dO W),.int .i64 (dA W),.int .i64 (dB W),.int .i64 (dC W),.int .i64 (dM W)] 99)=v at O HU HI ⊢;generalize u.heap.size=I at HI HG ⊢;refine O.mono ?_;rintro e z ⟨rfl,hz⟩;have G:z.heap[I]?=some (.cells (fP (dO W) (dA W) (dB W) (dC W) (dM W)) 99 (0,0)):=(hz.block I (ab HI.out)).trans HI.out;have c0:z.cell? ⟨I,0,none⟩=some (.int .i64 (dO W)):=(ae G 0).trans rfl;have lI:I<z.heap.size:=ab G;have Q:Below w.heap.size w z:=HU.trans (hz.mono HU.size);have R:=Q.alloc Q.size (.cells #[.string (nm (dO W))] 9);have a0:=aa (HF.out _ R);have J:=aa (show(z.alloc (.cells #[.string (nm (dO W))] 9)).ownsRow (I+1) 9 1 (.slice (some ⟨z.heap.size,0,none⟩) 1 1) 1 [.string (nm (dO W))] from⟨rfl,.inr ⟨z.heap.size,1,_,rfl,lI,af _ _,ag _,by unfold maxLen;omega,rfl,rfl⟩⟩);have m:=aa ((dF z (.cells #[.string (nm (dO W))] 9) lI).trans G);have r:=aa R;clear hz G Q R O HF HI HU;go_wp2_with fail;refine a0.mono ?_;rintro e y ⟨rfl,Y⟩;have t:=aa (show PrS w (y.iter (fm (dO W)) 0) W I y.heap.size 0 0 (.slice (some ⟨z.heap.size,0,none⟩) 1 1) by
  refine⟨(r.trans (Y.mono r.size)).alloc (r.trans (Y.mono r.size)).size _,?_,af _ _,?_,HG.out,?_⟩
  ·have ho:=du J.out (Chg.of_below (S:=λ_=>False) Y) λ_ _=>id
   have e:txs (opT W::((di W).take 0).map (dg W))=[.string (nm (dO W))]:=by rw[bO];rfl
   rw[e];exact ho.alloc _
  ·exact(dF y _ (ab ((Y.block I (ab m.out)).trans m.out))).trans ((Y.block I (ab m.out)).trans m.out)
  ·exact ab ((Y.block I (ab m.out)).trans m.out))
 clear Y a0 J m r c0 lI;have a3:=aa (show w.heap.size<=y.heap.size from by have:=t.ge;have:=t.lt;omega);go_wp2_with fail;generalize y.heap.size=D at t a3 ⊢
 go_loopw [4] (λv wr=>∃p:Nat,p<=(di W).length/\Hid (PrS w wr W I D p p v)) (λv wr=>(di W).length-wr.iterPos D)
 case atStart=>exact⟨0,aV _,t⟩
 case round =>
  clear t;obtain⟨p,hp,L⟩:=hrel;have a6:(di W).length<=3:=by unfold di;rcases kL (dO W)with T|T|T|T|T|T|T<;>rw[T]<;>decide
  rename World=>wr
  by_cases hlt:p<(di W).length
  ·obtain⟨x,F⟩:∃x,(di W)[p]?=some x:=⟨_,aw hlt⟩
   have hm:=ph W x (aJ F);have U:p<(fm (dO W)).size:=hlt;have X:(fm (dO W))[p]'U=x:=by
    have:=(aE.1 F).2;rw[<- this];rfl
   have hn:∀ty,(Instr.next (.pointer (some ⟨D,0,none⟩)) true ty).run prog wr=.ok (.tuple #[.bool true,.int .i64 p,.int .i32 x.toNat]) (wr.iterAt D (fm (dO W)) (p+1)):=λty=>by
    rw[Lib.run_next_ascii_at wr D _ p ty L.out.it U (by rw[X];rcases hm with rfl|rfl|rfl|rfl|rfl<;>decide),X]
   have hN:=L.out.next (p+1);have c1:(wr.iterAt D (fm (dO W)) (p+1)).cell? ⟨I,1,none⟩=some (.int .i64 (dA W)):=(ae hN.ins 1).trans rfl;have c2:(wr.iterAt D (fm (dO W)) (p+1)).cell? ⟨I,2,none⟩=some (.int .i64 (dB W)):=(ae hN.ins 2).trans rfl;have Z:(wr.iterAt D (fm (dO W)) (p+1)).cell? ⟨I,3,none⟩=some (.int .i64 (dC W)):=(ae hN.ins 3).trans rfl;have c4:(wr.iterAt D (fm (dO W)) (p+1)).cell? ⟨I,4,none⟩=some (.int .i64 (dM W)):=(ae hN.ins 4).trans rfl;have c:=aa hN;have HX:=aa F;have s:=aa (show wr.iterPos D=p by simp[World.iterPos,L.out.it]);clear hN F X U L;generalize wr.iterAt D (fm (dO W)) (p+1)=y at hn c1 c2 Z c4 c;have f:=aa λn h0 h1=>FE y (eE HP.out c.bel) n h0 h1;rcases hm with rfl|rfl|rfl|rfl|rfl
   ·have k:∀ty,(Instr.next (.pointer (some ⟨D,0,none⟩)) true ty).run prog wr=.ok (.tuple #[.bool true,.int .i64 p,.int .i32 97]) y:=hn
    clear hn;have j:=aa (f.out (dA W) (by have:=(mZ W h).2.1;omega) (by have:=(mZ W h).2.1;omega));obtain⟨i,d⟩:∃i,Lib.itoa (dA W)=i:=⟨_,rfl⟩;have a2:i.length<=14:=by rw[<- d];exact nQ 12 _ (by have:=(mZ W h).2.1;omega)
    have K:(⟨#[99]⟩:ByteArray)++⟨i.toArray⟩=⟨(dg W 97).toArray⟩:=by rw[show dg W 97=99::i by rw[<- d];rfl];apply ByteArray.ext;simp[ByteArray.data_append]
    have hg:¬(9223372036854775807<1+i.length):=by omega
    rw[d]at j;go_wp2_with fail;refine j.mono ?_;rintro e q ⟨rfl,l⟩;have g:=aa (c.below l);have E:I+1<=q.heap.size:=ab g.ins;clear l j c f c1 c2 Z c4 k
    go_wp2_with (at_builtin;refine wpList_append_own _ rfl _ _ 96 rfl (I+1) 9 i0 (.string ⟨#[]⟩) 1 16 underlying96 hi A B C rfl (by decide) _ _ _ rfl (g.own.alloc _) ⟨q.heap.size,0,none⟩ 1 1 [.string ⟨(dg W 97).toArray⟩] rfl rfl (eu q _ _) (by simp[Value.oneCell']) (by unfold maxLen;omega) (by omega) (by simp;omega) ?_;intro v' H b a _;have o:=aa (g.app HX.out a b);clear a b)
    exact⟨⟨p+1,hlt,o⟩,by rw[s.out,show H.iterPos D=p+1 by simp[World.iterPos,o.it]];omega⟩
   ·have k:∀ty,(Instr.next (.pointer (some ⟨D,0,none⟩)) true ty).run prog wr=.ok (.tuple #[.bool true,.int .i64 p,.int .i32 98]) y:=hn
    clear hn;have j:=aa (f.out (dB W) (by have:=(mZ W h).2.2.1;omega) (by have:=(mZ W h).2.2.1;omega));obtain⟨i,d⟩:∃i,Lib.itoa (dB W)=i:=⟨_,rfl⟩;have a2:i.length<=14:=by rw[<- d];exact nQ 12 _ (by have:=(mZ W h).2.2.1;omega)
    have K:(⟨#[99]⟩:ByteArray)++⟨i.toArray⟩=⟨(dg W 98).toArray⟩:=by rw[show dg W 98=99::i by rw[<- d];rfl];apply ByteArray.ext;simp[ByteArray.data_append]
    have hg:¬(9223372036854775807<1+i.length):=by omega
    rw[d]at j;go_wp2_with fail;refine j.mono ?_;rintro e q ⟨rfl,l⟩;have g:=aa (c.below l);have E:I+1<=q.heap.size:=ab g.ins;clear l j c f c1 c2 Z c4 k
    go_wp2_with (at_builtin;refine wpList_append_own _ rfl _ _ 96 rfl (I+1) 9 i0 (.string ⟨#[]⟩) 1 16 underlying96 hi A B C rfl (by decide) _ _ _ rfl (g.own.alloc _) ⟨q.heap.size,0,none⟩ 1 1 [.string ⟨(dg W 98).toArray⟩] rfl rfl (eu q _ _) (by simp[Value.oneCell']) (by unfold maxLen;omega) (by omega) (by simp;omega) ?_;intro v' H b a _;have o:=aa (g.app HX.out a b);clear a b)
    exact⟨⟨p+1,hlt,o⟩,by rw[s.out,show H.iterPos D=p+1 by simp[World.iterPos,o.it]];omega⟩
   ·have k:∀ty,(Instr.next (.pointer (some ⟨D,0,none⟩)) true ty).run prog wr=.ok (.tuple #[.bool true,.int .i64 p,.int .i32 99]) y:=hn
    clear hn;have j:=aa (f.out (dC W) (by have:=(mZ W h).2.2.2.1;omega) (by have:=(mZ W h).2.2.2.1;omega));obtain⟨i,d⟩:∃i,Lib.itoa (dC W)=i:=⟨_,rfl⟩;have a2:i.length<=14:=by rw[<- d];exact nQ 12 _ (by have:=(mZ W h).2.2.2.1;omega)
    have K:(⟨#[99]⟩:ByteArray)++⟨i.toArray⟩=⟨(dg W 99).toArray⟩:=by rw[show dg W 99=99::i by rw[<- d];rfl];apply ByteArray.ext;simp[ByteArray.data_append]
    have hg:¬(9223372036854775807<1+i.length):=by omega
    rw[d]at j;go_wp2_with fail;refine j.mono ?_;rintro e q ⟨rfl,l⟩;have g:=aa (c.below l);have E:I+1<=q.heap.size:=ab g.ins;clear l j c f c1 c2 Z c4 k
    go_wp2_with (at_builtin;refine wpList_append_own _ rfl _ _ 96 rfl (I+1) 9 i0 (.string ⟨#[]⟩) 1 16 underlying96 hi A B C rfl (by decide) _ _ _ rfl (g.own.alloc _) ⟨q.heap.size,0,none⟩ 1 1 [.string ⟨(dg W 99).toArray⟩] rfl rfl (eu q _ _) (by simp[Value.oneCell']) (by unfold maxLen;omega) (by omega) (by simp;omega) ?_;intro v' H b a _;have o:=aa (g.app HX.out a b);clear a b)
    exact⟨⟨p+1,hlt,o⟩,by rw[s.out,show H.iterPos D=p+1 by simp[World.iterPos,o.it]];omega⟩
   ·have k:∀ty,(Instr.next (.pointer (some ⟨D,0,none⟩)) true ty).run prog wr=.ok (.tuple #[.bool true,.int .i64 p,.int .i32 105]) y:=hn
    clear hn;have j:=aa (f.out (dM W) (by have:=(mZ W h).2.2.2.2.1;omega) (by have:=(mZ W h).2.2.2.2.1;omega));rw[show Lib.itoa (dM W)=dg W 105 from rfl]at j;go_wp2_with fail;refine j.mono ?_;rintro e q ⟨rfl,l⟩;have g:=aa (c.below l);have E:I+1<=q.heap.size:=ab g.ins;clear l j c f c1 c2 Z c4 k
    go_wp2_with (at_builtin;refine wpList_append_own _ rfl _ _ 96 rfl (I+1) 9 i0 (.string ⟨#[]⟩) 1 16 underlying96 hi A B C rfl (by decide) _ _ _ rfl (g.own.alloc _) ⟨q.heap.size,0,none⟩ 1 1 [.string ⟨(dg W 105).toArray⟩] rfl rfl (eu q _ _) (by simp[Value.oneCell']) (by unfold maxLen;omega) (by omega) (by simp;omega) ?_;intro v' H b a _;have o:=aa (g.app HX.out a b);clear a b)
    exact⟨⟨p+1,hlt,o⟩,by rw[s.out,show H.iterPos D=p+1 by simp[World.iterPos,o.it]];omega⟩
   ·have k:∀ty,(Instr.next (.pointer (some ⟨D,0,none⟩)) true ty).run prog wr=.ok (.tuple #[.bool true,.int .i64 p,.int .i32 106]) y:=hn
    clear hn;have j:=aa (f.out (dM W) (by have:=(mZ W h).2.2.2.2.1;omega) (by have:=(mZ W h).2.2.2.2.1;omega));rw[show Lib.itoa (dM W)=dg W 106 from rfl]at j;go_wp2_with fail;refine j.mono ?_;rintro e q ⟨rfl,l⟩;have g:=aa (c.below l);have E:I+1<=q.heap.size:=ab g.ins;clear l j c f c1 c2 Z c4 k
    go_wp2_with (at_builtin;refine wpList_append_own _ rfl _ _ 96 rfl (I+1) 9 i0 (.string ⟨#[]⟩) 1 16 underlying96 hi A B C rfl (by decide) _ _ _ rfl (g.own.alloc _) ⟨q.heap.size,0,none⟩ 1 1 [.string ⟨(dg W 106).toArray⟩] rfl rfl (eu q _ _) (by simp[Value.oneCell']) (by unfold maxLen;omega) (by omega) (by simp;omega) ?_;intro v' H b a _;have o:=aa (g.app HX.out a b);clear a b)
    exact⟨⟨p+1,hlt,o⟩,by rw[s.out,show H.iterPos D=p+1 by simp[World.iterPos,o.it]];omega⟩
  ·have a4:p=(di W).length:=by omega
   subst a4;have hn:∀ty,(Instr.next (.pointer (some ⟨D,0,none⟩)) true ty).run prog wr=_:=λty=>py (P:=prog) wr D (fm (dO W)) (di W).length ty L.out.it hlt;have F:=L.out.own;rw[cg,<- HW.out]at F;have a5:(di W).length+1=(dJ W).length:=by rw[HW.out];simp
   rw[a5]at F;have M:=Af F (by omega);have HJ:=aa (zi wr _ _ M (by omega) (by have:=HL.out;unfold dP at this;omega));have HB:=aa L.out.bel;clear L F M;go_wp2_with fail;refine HJ.mono ?_;rintro e q ⟨rfl,l⟩;have g:=aa (HB.trans (l.mono HB.size));clear l HJ;go_wp2_with fail;go_ret;exact⟨rfl,g.out⟩
theorem oD (w:World) (W:Int) (h0:0<=W) (h1:W<4294967296) (ht:Tab w) (hpow:Pow w):
  Calls prog 11 #[.int .u32 W] w λe w'=>e=.returned (.string ⟨(dP W).toArray⟩)/\Below w.heap.size w w':=by
 by_cases h:dO W=0
 ·obtain⟨n,rfl⟩:∃n:Nat,W=n:=⟨W.toNat,by omega⟩
  exact Cg w n (by omega) ht hpow h
 ·exact An w W h0 h1 ht hpow h
end
def itA (W:Int) (line:Int):Array Value:=#[.int .i64 (dO W),.int .i64 (dA W),.int .i64 (dB W),.int .i64 (dC W),.int .i64 (dM W),.int .u32 W,.string ⟨#[]⟩,.int .i64 line]
theorem zj {a:World} (h:z.heap[g]?=some (.cells #[y0,y1,y2,y3,y4,y5,y6,y7] 101 (0,0))) (hb:Below B a z) (hg:B<=g) (x0 x1 x2 x3 x4 x5 x6 x7:Value):
  ((((((((z.setCell ⟨g,0,none⟩ x0).setCell ⟨g,1,none⟩ x1).setCell ⟨g,2,none⟩ x2).setCell ⟨g,3,none⟩ x3).setCell ⟨g,4,none⟩ x4).setCell ⟨g,5,none⟩ x5).setCell ⟨g,6,none⟩ x6).setCell ⟨g,7,none⟩ x7).heap[g]?=some (.cells #[x0,x1,x2,x3,x4,x5,x6,x7] 101 (0,0))/\Below B a ((((((((z.setCell ⟨g,0,none⟩ x0).setCell ⟨g,1,none⟩ x1).setCell ⟨g,2,none⟩ x2).setCell ⟨g,3,none⟩ x3).setCell ⟨g,4,none⟩ x4).setCell ⟨g,5,none⟩ x5).setCell ⟨g,6,none⟩ x6).setCell ⟨g,7,none⟩ x7):=by
 have b:(z.setCell ⟨g,0,none⟩ x0).heap[g]?=some (.cells #[x0,y1,y2,y3,y4,y5,y6,y7] 101 (0,0)):=aA (j:=0) h x0;have c:((z.setCell ⟨g,0,none⟩ x0).setCell ⟨g,1,none⟩ x1).heap[g]?=some (.cells #[x0,x1,y2,y3,y4,y5,y6,y7] 101 (0,0)):=aA (j:=1) b x1;have d:(((z.setCell ⟨g,0,none⟩ x0).setCell ⟨g,1,none⟩ x1).setCell ⟨g,2,none⟩ x2).heap[g]?=some (.cells #[x0,x1,x2,y3,y4,y5,y6,y7] 101 (0,0)):=aA (j:=2) c x2;have e:((((z.setCell ⟨g,0,none⟩ x0).setCell ⟨g,1,none⟩ x1).setCell ⟨g,2,none⟩ x2).setCell ⟨g,3,none⟩ x3).heap[g]?=some (.cells #[x0,x1,x2,x3,y4,y5,y6,y7] 101 (0,0)):=aA (j:=3) d x3;have f:(((((z.setCell ⟨g,0,none⟩ x0).setCell ⟨g,1,none⟩ x1).setCell ⟨g,2,none⟩ x2).setCell ⟨g,3,none⟩ x3).setCell ⟨g,4,none⟩ x4).heap[g]?=some (.cells #[x0,x1,x2,x3,x4,y5,y6,y7] 101 (0,0)):=aA (j:=4) e x4;have i:((((((z.setCell ⟨g,0,none⟩ x0).setCell ⟨g,1,none⟩ x1).setCell ⟨g,2,none⟩ x2).setCell ⟨g,3,none⟩ x3).setCell ⟨g,4,none⟩ x4).setCell ⟨g,5,none⟩ x5).heap[g]?=some (.cells #[x0,x1,x2,x3,x4,x5,y6,y7] 101 (0,0)):=aA (j:=5) f x5;have k:(((((((z.setCell ⟨g,0,none⟩ x0).setCell ⟨g,1,none⟩ x1).setCell ⟨g,2,none⟩ x2).setCell ⟨g,3,none⟩ x3).setCell ⟨g,4,none⟩ x4).setCell ⟨g,5,none⟩ x5).setCell ⟨g,6,none⟩ x6).heap[g]?=some (.cells #[x0,x1,x2,x3,x4,x5,x6,y7] 101 (0,0)):=aA (j:=6) i x6;have l:((((((((z.setCell ⟨g,0,none⟩ x0).setCell ⟨g,1,none⟩ x1).setCell ⟨g,2,none⟩ x2).setCell ⟨g,3,none⟩ x3).setCell ⟨g,4,none⟩ x4).setCell ⟨g,5,none⟩ x5).setCell ⟨g,6,none⟩ x6).setCell ⟨g,7,none⟩ x7).heap[g]?=some (.cells #[x0,x1,x2,x3,x4,x5,x6,x7] 101 (0,0)):=aA (j:=7) k x7;exact⟨l,((((((((hb.setCell (p:=⟨g,0,none⟩) hg _).setCell (p:=⟨g,1,none⟩) hg _).setCell (p:=⟨g,2,none⟩) hg _).setCell (p:=⟨g,3,none⟩) hg _).setCell (p:=⟨g,4,none⟩) hg _).setCell (p:=⟨g,5,none⟩) hg _).setCell (p:=⟨g,6,none⟩) hg _).setCell (p:=⟨g,7,none⟩) hg _)⟩
theorem pQ (h:z.heap[g]?=some (.cells #[y0,y1,y2,y3,y4,y5,y6,y7] 101 (0,0))):
  (z.cell? ⟨g,0,none⟩=some y0/\z.cell? ⟨g,1,none⟩=some y1/\z.cell? ⟨g,2,none⟩=some y2/\z.cell? ⟨g,3,none⟩=some y3/\z.cell? ⟨g,4,none⟩=some y4/\z.cell? ⟨g,5,none⟩=some y5/\z.cell? ⟨g,6,none⟩=some y6/\z.cell? ⟨g,7,none⟩=some y7)/\(z.frozen? ⟨g,0,none⟩=false/\z.frozen? ⟨g,1,none⟩=false/\z.frozen? ⟨g,2,none⟩=false/\z.frozen? ⟨g,3,none⟩=false/\z.frozen? ⟨g,4,none⟩=false/\z.frozen? ⟨g,5,none⟩=false/\z.frozen? ⟨g,6,none⟩=false/\z.frozen? ⟨g,7,none⟩=false):=
 ⟨⟨(ae h 0).trans rfl,(ae h 1).trans rfl,(ae h 2).trans rfl,(ae h 3).trans rfl,(ae h 4).trans rfl,(ae h 5).trans rfl,(ae h 6).trans rfl,(ae h 7).trans rfl⟩,aD z g 0 _ _ h,aD z g 1 _ _ h,aD z g 2 _ _ h,aD z g 3 _ _ h,aD z g 4 _ _ h,aD z g 5 _ _ h,aD z g 6 _ _ h,aD z g 7 _ _ h⟩
theorem E8 (w:World) (v:Value) (n:Nat) (hn:n<4294967296) (hpow:Pow w) (h:dO (n:Int)=0) (hv:Ba w v (dJ n)):
  Calls prog 35 #[v] w λe w'=>e=.returned (.tuple #[.agg (itA n 0),.bool true])/\Below w.heap.size w w':=by
 have m:dJ n=[sr,Lib.itoa n]:=ax h;have f:itA n 0=#[.int .i64 0,.int .i64 0,.int .i64 0,.int .i64 0,.int .i64 0,.int .u32 n,.string ⟨#[]⟩,.int .i64 0]:=by
  rcases Dz n with⟨_,K,_⟩|⟨_,q,r,s,x,y⟩
  ·omega
  ·unfold itA;rw[q,r,s,x,y]
 rw[m]at hv;obtain⟨g,c,rfl,z,L,a⟩:=hv;have O:w.cell? ⟨g,0,none⟩=some (.string ⟨#[119,111,114,100]⟩):=a 0 _ rfl;have P:w.cell? ⟨g,1,none⟩=some (.string ⟨(Lib.itoa n).toArray⟩):=a 1 _ rfl;have b:=(ai w.heap.size w).alloc (ag _) (.cells #[.int .i64 0,.int .i64 0,.int .i64 0,.int .i64 0,.int .i64 0,.int .u32 0,.string ⟨#[]⟩,.int .i64 0] 101);have l:=aa (nG _ (eE hpow b) n (by omega) (by omega));have d:=aa b;have M:((⟨#[119,111,114,100]⟩:ByteArray)==⟨#[119,111,114,100]⟩)=true:=rfl;have N:IntKind.u32.wrap (n:Int)=n:=IntWalk.u32_in _ (by omega);have A:decide (0<=(n:Int))=true:=dr (by omega);have B:decide ((n:Int)<4294967296)=true:=dr (by omega);rw[f];generalize(⟨(Lib.itoa n).toArray⟩:ByteArray)=t at *;clear a z hpow h m f b
 go_enter func35,ntmps35
 go_wp2_with fail;refine l.mono ?_;rintro e u ⟨rfl,i⟩;have o:=aa (d.trans (i.mono d.size));have j:u.heap[w.heap.size]?=some (.cells #[.int .i64 0,.int .i64 0,.int .i64 0,.int .i64 0,.int .i64 0,.int .u32 0,.string ⟨#[]⟩,.int .i64 0] 101 (0,0)):=(i.block _ (by rw[ah];omega)).trans (af _ _);obtain⟨⟨Q,R,S,T,U,V,W,z7⟩,C,D,E,F,G,H,I,J⟩:=pQ j;have k:=aa λx0 x1 x2 x3 x4 x5 x6 x7=>zj j o.out (ag _) x0 x1 x2 x3 x4 x5 x6 x7;clear i l j;go_wp2_with fail;exact aN (gK (p:=2) (u:=3) rfl _ _ w.heap.size 101 _ (0,0) _ rfl (k.out _ _ _ _ _ _ _ _).1 underlying101 rfl (by kernel_rfl)) rfl ⟨rfl,(k.out _ _ _ _ _ _ _ _).2⟩
def rO (W:Int) (F:List UInt8) (wd:Int):Array Value:=#[.int .i64 (dO W),.int .i64 (if 97∈F then dA W else 0),.int .i64 (if 98∈F then dB W else 0),.int .i64 (if 99∈F then dC W else 0),.int .i64 (if 105∈F\/106∈F then dM W else 0),.int .u32 wd,.string ⟨#[]⟩,.int .i64 0]
theorem Cp (W:Int):rO W [] 0=#[.int .i64 (dO W),.int .i64 0,.int .i64 0,.int .i64 0,.int .i64 0,.int .u32 0,.string ⟨#[]⟩,.int .i64 0]:=by unfold rO;simp
theorem FI (W:Int) (x:UInt8):ir (fm (dO W)) (x.toNat:Int)=true<->x∈di W:=by
 unfold ir di;rw[List.any_eq_true]
 constructor
 ·rintro⟨u,a,h⟩
  have:u.toNat=x.toNat:=by have:=eq_of_beq h;omega
  rw[<- UInt8.toNat_inj.1 this];exact a
 ·intro h
  exact⟨x,h,by simp⟩
theorem qS (W:Int) (x:UInt8) (h:x ∉ di W):ir (fm (dO W)) (x.toNat:Int)=false:=by
 cases e:ir (fm (dO W)) (x.toNat:Int)with
 | false=>rfl
 | true=>exact absurd ((FI W x).1 e) h
theorem Fi (W:Int) (h:dO W≠0) (wd:Int):rO W (di W) wd=#[.int .i64 (dO W),.int .i64 (dA W),.int .i64 (dB W),.int .i64 (dC W),.int .i64 (dM W),.int .u32 wd,.string ⟨#[]⟩,.int .i64 0]:=by
 obtain⟨d,f,g,i⟩:=Cz W h;have a:(if 97∈di W then dA W else 0)=dA W:=by
  split
  ·rfl
  ·rename_i e;exact(d (qS W 97 e)).symm
 have b:(if 98∈di W then dB W else 0)=dB W:=by
  split
  ·rfl
  ·rename_i e;exact(f (qS W 98 e)).symm
 have c:(if 99∈di W then dC W else 0)=dC W:=by
  split
  ·rfl
  ·rename_i e;exact(g (qS W 99 e)).symm
 have m:(if 105∈di W\/106∈di W then dM W else 0)=dM W:=by
  split
  ·rfl
  ·rename_i e;exact(i (qS W 105 λh=>e (.inl h)) (qS W 106 λh=>e (.inr h))).symm
 unfold rO;rw[a,b,c,m]
structure RdS (w0 w:World) (W:Int) (g c R X D p n:Nat):Prop where
 bel:Below w0.heap.size w0 w
 res:w.heap[R]?=some (.cells #[.int .i64 0,.int .i64 0,.int .i64 0,.int .i64 0,.int .i64 0,.int .u32 0,.string ⟨#[]⟩,.int .i64 0] 101 (0,0))
 it:w.heap[D]?=some (.stringIter (fm (dO W)) p)
 x:w.heap[X]?=some (.cells (rO W ((di W).take n) 0) 101 (0,0))
 row:g<w0.heap.size/\∀(j:Nat) t,(dJ W)[j]?=some t->w.cell? ⟨g,j,none⟩=some (.string ⟨t.toArray⟩)
 le:w0.heap.size<=R/\R<X/\X<D
section
variable {w0 w u:World} {W:Int} {g c R X D p n:Nat}
theorem RdS.next (h:RdS w0 w W g c R X D p n) (p':Nat):RdS w0 (w.iterAt D (fm (dO W)) p') W g c R X D p' n:=by
 obtain⟨d,f,i⟩:=h.le;have m:=h.bel.size;have b:=pr h.bel (k:=D) (by omega) (fm (dO W)) p';refine⟨b,(Lib.iterAt_other _ _ _ _ _ (by omega)).trans h.res,rA _ _ _ _ _ h.it,(Lib.iterAt_other _ _ _ _ _ (by omega)).trans h.x,⟨h.row.1,λj t hj=>?_⟩,h.le⟩;have a:=h.row.2 j t hj;have l:=h.row.1;have e:=Lib.iterAt_other w D g (fm (dO W)) p' (by omega);unfold World.cell? at a ⊢;simp only[e]at a ⊢;exact a
theorem RdS.below (h:RdS w0 w W g c R X D p n) (hb:Below w.heap.size w u):RdS w0 u W g c R X D p n:=
 ⟨h.bel.trans (hb.mono h.bel.size),(hb.block R (ab h.res)).trans h.res,(hb.block D (ab h.it)).trans h.it,(hb.block X (ab h.x)).trans h.x,⟨h.row.1,λj t hj=>(hb.cell (aH (h.row.2 j t hj))).trans (h.row.2 j t hj)⟩,h.le⟩
theorem RdS.put (h:RdS w0 w W g c R X D p n) (k:Nat) (v:Value) (hr:(rO W ((di W).take n) 0).setIfInBounds k v=rO W ((di W).take (n+1)) 0):RdS w0 (w.setCell ⟨X,k,none⟩ v) W g c R X D p (n+1):=by
 obtain⟨b,d,f⟩:=h.le;have l:=h.bel.size;have a:Below w0.heap.size w0 (w.setCell ⟨X,k,none⟩ v):=h.bel.setCell (p:=⟨X,k,none⟩) (show w0.heap.size<=X by omega) _;refine⟨a,(bW _ _ _ _ (show R≠X by omega)).trans h.res,(bW _ _ _ _ (show D≠X by omega)).trans h.it,?_,⟨h.row.1,λj t hj=>?_⟩,h.le⟩
 ·rw[<- hr];exact aA (j:=k) h.x v
 ·have i:=h.row.1
  exact(bf w ⟨X,k,none⟩ ⟨g,j,none⟩ v (λe=>by injection e with e;omega)).trans (h.row.2 j t hj)
end
theorem nI (W:Int) (n:Nat) (x:UInt8) (hx:(di W)[n]?=some x):
  (x=97->(rO W ((di W).take n) 0).setIfInBounds 1 (.int .i64 (dA W))=rO W ((di W).take (n+1)) 0) /\
  (x=98->(rO W ((di W).take n) 0).setIfInBounds 2 (.int .i64 (dB W))=rO W ((di W).take (n+1)) 0) /\
  (x=99->(rO W ((di W).take n) 0).setIfInBounds 3 (.int .i64 (dC W))=rO W ((di W).take (n+1)) 0) /\
  (x=105\/x=106->(rO W ((di W).take n) 0).setIfInBounds 4 (.int .i64 (dM W))=rO W ((di W).take (n+1)) 0):=by
 have e:(di W).take (n+1)=(di W).take n++[x]:=by rw[bT,hx];rfl
 rw[e];refine⟨?_,?_,?_,?_⟩
 ·rintro rfl;simp[rO]
 ·rintro rfl;simp[rO]
 ·rintro rfl;simp[rO]
 ·rintro(rfl|rfl)<;>simp[rO]
theorem B7 (w:World) (v:Value) (W:Int) (h0:0<=W) (h1:W<4294967296) (ht:Tab w) (hpow:Pow w) (h:dO W≠0) (hv:Ba w v (dJ W)):
  Calls prog 35 #[v] w λe w'=>e=.returned (.tuple #[.agg (itA W 0),.bool true])/\Below w.heap.size w w':=by
 have ew:dJ W=opT W::(di W).map (dg W):=ap h;have ar:(dJ W).length=(di W).length+1:=by rw[ew];simp
 obtain⟨g,c,rfl,hc,hg,m⟩:=hv;have aL:(dO W==(0:Int))=false:=by simpa using h
 have k0:w.cell? ⟨g,0,none⟩=some (.string ⟨(opT W).toArray⟩):=m 0 _ (by rw[ew];rfl);have aB:(opT W==([119,111,114,100]:List UInt8))=false:=bS.2 (sT W h).2.2;have HO:=aa λu (C:Below w.heap.size w u)=>Md u u (ai _ _) (ht.below C) ⟨(opT W).toArray⟩;rw[show JJ ⟨(opT W).toArray⟩=dO W from IK (mZ W h).1.1 (mZ W h).1.2]at HO;have HF:=aa λu (C:Below w.heap.size w u)=>tv u u (ai _ _) (ht.below C) (dO W);have HE:=aa λu (C:Below w.heap.size w u)=>zx u u (ai _ _) (ht.below C) (dO W) (dA W) (dB W) (dC W) (dM W);rw[(mZ W h).2.2.2.2.2.1,(mZ W h).2.2.2.2.2.2]at HE;unfold fP at HE;have HC:=aa m;have HP:=aa hpow;have HW:=aa ar;have ac:=aa ew;generalize opT W=o at k0 aB HO ac;clear m hpow ht ew;have aI:(di W).length<=3:=by unfold di;rcases kL (dO W)with hf|hf|hf|hf|hf|hf|hf<;>rw[hf]<;>decide
 have al:Below w.heap.size w (w.alloc (.cells #[.int .i64 0,.int .i64 0,.int .i64 0,.int .i64 0,.int .i64 0,.int .u32 0,.string ⟨#[]⟩,.int .i64 0] 101)):=az;have M:=aa al;clear al;rw[ar]at hc ⊢
 go_enter func35,ntmps35
 go_wp2_with fail;have G:((w.alloc (.cells #[.int .i64 0,.int .i64 0,.int .i64 0,.int .i64 0,.int .i64 0,.int .u32 0,.string ⟨#[]⟩,.int .i64 0] 101)).alloc (.cells #[.int .i64 0,.int .i64 0,.int .i64 0,.int .i64 0,.int .i64 0,.int .u32 0,.string ⟨#[]⟩,.int .i64 0] 101)).heap[w.heap.size]?=some (.cells #[.int .i64 0,.int .i64 0,.int .i64 0,.int .i64 0,.int .i64 0,.int .u32 0,.string ⟨#[]⟩,.int .i64 0] 101 (0,0)):=(dF _ _ (by rw[ah];omega)).trans (af _ _);have H:((w.alloc (.cells #[.int .i64 0,.int .i64 0,.int .i64 0,.int .i64 0,.int .i64 0,.int .u32 0,.string ⟨#[]⟩,.int .i64 0] 101)).alloc (.cells #[.int .i64 0,.int .i64 0,.int .i64 0,.int .i64 0,.int .i64 0,.int .u32 0,.string ⟨#[]⟩,.int .i64 0] 101)).heap[w.heap.size+1]?=some (.cells #[.int .i64 0,.int .i64 0,.int .i64 0,.int .i64 0,.int .i64 0,.int .u32 0,.string ⟨#[]⟩,.int .i64 0] 101 (0,0)):=by
  have:=af (w.alloc (.cells #[.int .i64 0,.int .i64 0,.int .i64 0,.int .i64 0,.int .i64 0,.int .u32 0,.string ⟨#[]⟩,.int .i64 0] 101)) (.cells #[.int .i64 0,.int .i64 0,.int .i64 0,.int .i64 0,.int .i64 0,.int .u32 0,.string ⟨#[]⟩,.int .i64 0] 101);rw[ah]at this;exact this
 have K:Below w.heap.size w ((w.alloc (.cells #[.int .i64 0,.int .i64 0,.int .i64 0,.int .i64 0,.int .i64 0,.int .u32 0,.string ⟨#[]⟩,.int .i64 0] 101)).alloc (.cells #[.int .i64 0,.int .i64 0,.int .i64 0,.int .i64 0,.int .i64 0,.int .u32 0,.string ⟨#[]⟩,.int .i64 0] 101)):=M.alloc M.size _;have S:=aa (HO.out _ K);generalize(w.alloc (.cells #[.int .i64 0,.int .i64 0,.int .i64 0,.int .i64 0,.int .i64 0,.int .u32 0,.string ⟨#[]⟩,.int .i64 0] 101)).alloc (.cells #[.int .i64 0,.int .i64 0,.int .i64 0,.int .i64 0,.int .i64 0,.int .u32 0,.string ⟨#[]⟩,.int .i64 0] 101)=a at G H K S ⊢;obtain⟨R,hR⟩:∃R,w.heap.size=R:=⟨_,rfl⟩;have F:=aa hR;rw[hR]at G H ⊢;have T:=aa G;have Y:=aa H;have N:=aa K;clear G H K HO M hR;refine S.mono ?_;rintro e u ⟨rfl,C⟩;have I:=(C.block _ (ab Y.out)).trans Y.out;have aj:=(C.block _ (ab T.out)).trans T.out;have an:Below w.heap.size w u:=N.trans (C.mono N.size);have x0:u.cell? ⟨R+1,0,none⟩=some (.int .i64 0):=(ae I 0).trans rfl;have f0:=aD u _ 0 _ _ I;have a2:Below w.heap.size w (u.setCell ⟨R+1,0,none⟩ (.int .i64 (dO W))):=an.setCell (p:=⟨R+1,0,none⟩) (show w.heap.size<=R+1 by have:=F.out;omega) _;have ak:(u.setCell ⟨R+1,0,none⟩ (.int .i64 (dO W))).heap[R+1]?=some (.cells (rO W [] 0) 101 (0,0)):=by rw[Cp];exact aA (j:=0) I _
 have ag:=(bW u ⟨R+1,0,none⟩ R (.int .i64 (dO W)) (show R≠R+1 by omega)).trans aj;have ad:=aa (HF.out _ a2);have Z:=aa ak;have U:=aa ag;have O:=aa a2;clear C I aj an a2 ak ag S HF Y T N;go_wp2_with fail;refine ad.mono ?_;rintro e y ⟨rfl,hy⟩;have J:=(hy.block _ (ab Z.out)).trans Z.out;have a1:=(hy.block _ (ab U.out)).trans U.out;have L:Below w.heap.size w y:=O.trans (hy.mono O.size);have y0:y.cell? ⟨R+1,0,none⟩=some (.int .i64 (dO W)):=(ae J 0).trans rfl;have a3:∀(j:Nat) t,(dJ W)[j]?=some t->y.cell? ⟨g,j,none⟩=some (.string ⟨t.toArray⟩):=λj t hj=>(L.cell hg).trans (HC.out j t hj);have X:=aa (show RdS w (y.iter (fm (dO W)) 0) W g c R (R+1) y.heap.size 0 0 from by
  have h3:=ab J;refine⟨L.alloc L.size _,(dF y _ (ab a1)).trans a1,af _ _,?_,⟨hg,λj t hj=>?_⟩,by have:=F.out;omega,by omega,h3⟩
  ·rw[bO];exact(dF y _ h3).trans J
  ·exact(az:Below y.heap.size y (y.iter (fm (dO W)) 0)).cell (aH (a3 j t hj)) |>.trans (a3 j t hj))
 have aK:(fm (dO W)).size=(di W).length:=rfl;clear hy J a1 L a3 ad Z U O x0 f0;go_wp2_with fail;generalize y.heap.size=D at X ⊢;have ao:(((di W).length:Int)+1 != 1+((di W).length:Int))=false:=by rw[Int.add_comm];simp
 rw[ao];clear ao
 go_loopw [] (λwr=>∃p:Nat,p<=(di W).length/\Hid (RdS w wr W g c R (R+1) D p p)) (λwr=>(di W).length-wr.iterPos D)
 case atStart=>exact⟨0,aV _,X⟩
 case round =>
  clear X y0;obtain⟨p,hp,B⟩:=hrel
  rename World=>wr
  by_cases hlt:p<(di W).length
  ·obtain⟨x,E⟩:∃x,(di W)[p]?=some x:=⟨_,aw hlt⟩
   have hm:=ph W x (aJ E);have a4:p<(fm (dO W)).size:=hlt;have a6:(fm (dO W))[p]'a4=x:=by
    have:=(aE.1 E).2;rw[<- this];rfl
   have hn:∀ty,(Instr.next (.pointer (some ⟨D,0,none⟩)) true ty).run prog wr=.ok (.tuple #[.bool true,.int .i64 p,.int .i32 x.toNat]) (wr.iterAt D (fm (dO W)) (p+1)):=λty=>by
    rw[Lib.run_next_ascii_at wr D _ p ty B.out.it a4 (by rw[a6];rcases hm with rfl|rfl|rfl|rfl|rfl<;>decide),a6]
   have hN:=B.out.next (p+1);have au:(dJ W)[p+1]?=some (dg W x):=by rw[ac.out,List.getElem?_cons_succ,aG,E];rfl
   have c1:(wr.iterAt D (fm (dO W)) (p+1)).cell? ⟨g,p+1,none⟩=some (.string ⟨(dg W x).toArray⟩):=hN.row.2 _ _ au;have d:=aa hN;have HX:=aa E;have A:=aa (show wr.iterPos D=p by simp[World.iterPos,B.out.it]);clear hN E a6 a4 B au;generalize wr.iterAt D (fm (dO W)) (p+1)=y at hn c1 d;have f:=aa (eE HP.out d.bel);rcases hm with rfl|rfl|rfl|rfl|rfl
   ·have k:∀ty,(Instr.next (.pointer (some ⟨D,0,none⟩)) true ty).run prog wr=.ok (.tuple #[.bool true,.int .i64 p,.int .i32 97]) y:=hn
    clear hn;have b:Hid (Calls prog 87 #[.string ⟨(dg W 97).toArray⟩] y λe w'=>e=.returned (.tuple #[.int .i64 (dA W),.bool true])/\Below y.heap.size y w'):=lw y f.out (dA W) (mZ W h).2.1.1 (mZ W h).2.1.2;generalize(⟨(dg W 97).toArray⟩:ByteArray)=s at c1 b;go_wp2_with fail;refine b.mono ?_;rintro e q ⟨rfl,l⟩;have i:=aa (d.below l);have r:∃z,q.cell? ⟨R+1,1,none⟩=some z:=⟨_,ae i.x 1⟩;obtain⟨z,r⟩:=r;have fq:=aD q (R+1) 1 _ _ i.x;clear l b d f c1 k;go_wp2_with fail;have n:=aa (i.put 1 (.int .i64 (dA W)) ((nI W p _ HX.out).1 rfl))
    go_roundw
    case rel=>exact⟨p+1,hlt,n⟩
    case measure=>rw[A.out,show(q.setCell ⟨R+1,1,none⟩ (.int .i64 (dA W))).iterPos D=p+1 by simp only[World.iterPos,n.it]];omega
   ·have k:∀ty,(Instr.next (.pointer (some ⟨D,0,none⟩)) true ty).run prog wr=.ok (.tuple #[.bool true,.int .i64 p,.int .i32 98]) y:=hn
    clear hn;have b:Hid (Calls prog 87 #[.string ⟨(dg W 98).toArray⟩] y λe w'=>e=.returned (.tuple #[.int .i64 (dB W),.bool true])/\Below y.heap.size y w'):=lw y f.out (dB W) (mZ W h).2.2.1.1 (mZ W h).2.2.1.2;generalize(⟨(dg W 98).toArray⟩:ByteArray)=s at c1 b;go_wp2_with fail;refine b.mono ?_;rintro e q ⟨rfl,l⟩;have i:=aa (d.below l);have r:∃z,q.cell? ⟨R+1,2,none⟩=some z:=⟨_,ae i.x 2⟩;obtain⟨z,r⟩:=r;have fq:=aD q (R+1) 2 _ _ i.x;clear l b d f c1 k;go_wp2_with fail;have n:=aa (i.put 2 (.int .i64 (dB W)) ((nI W p _ HX.out).2.1 rfl))
    go_roundw
    case rel=>exact⟨p+1,hlt,n⟩
    case measure=>rw[A.out,show(q.setCell ⟨R+1,2,none⟩ (.int .i64 (dB W))).iterPos D=p+1 by simp only[World.iterPos,n.it]];omega
   ·have k:∀ty,(Instr.next (.pointer (some ⟨D,0,none⟩)) true ty).run prog wr=.ok (.tuple #[.bool true,.int .i64 p,.int .i32 99]) y:=hn
    clear hn;have b:Hid (Calls prog 87 #[.string ⟨(dg W 99).toArray⟩] y λe w'=>e=.returned (.tuple #[.int .i64 (dC W),.bool true])/\Below y.heap.size y w'):=lw y f.out (dC W) (mZ W h).2.2.2.1.1 (mZ W h).2.2.2.1.2;generalize(⟨(dg W 99).toArray⟩:ByteArray)=s at c1 b;go_wp2_with fail;refine b.mono ?_;rintro e q ⟨rfl,l⟩;have i:=aa (d.below l);have r:∃z,q.cell? ⟨R+1,3,none⟩=some z:=⟨_,ae i.x 3⟩;obtain⟨z,r⟩:=r;have fq:=aD q (R+1) 3 _ _ i.x;clear l b d f c1 k;go_wp2_with fail;have n:=aa (i.put 3 (.int .i64 (dC W)) ((nI W p _ HX.out).2.2.1 rfl))
    go_roundw
    case rel=>exact⟨p+1,hlt,n⟩
    case measure=>rw[A.out,show(q.setCell ⟨R+1,3,none⟩ (.int .i64 (dC W))).iterPos D=p+1 by simp only[World.iterPos,n.it]];omega
   ·have k:∀ty,(Instr.next (.pointer (some ⟨D,0,none⟩)) true ty).run prog wr=.ok (.tuple #[.bool true,.int .i64 p,.int .i32 105]) y:=hn
    clear hn;have b:Hid (Calls prog 85 #[.string ⟨(dg W 105).toArray⟩] y λe w'=>e=.returned (.tuple #[.int .i64 (dM W),.bool true])/\Below y.heap.size y w'):=nG y f.out (dM W) (by have:=(mZ W h).2.2.2.2.1;omega) (by have:=(mZ W h).2.2.2.2.1;omega);generalize(⟨(dg W 105).toArray⟩:ByteArray)=s at c1 b;go_wp2_with fail;refine b.mono ?_;rintro e q ⟨rfl,l⟩;have i:=aa (d.below l);have r:∃z,q.cell? ⟨R+1,4,none⟩=some z:=⟨_,ae i.x 4⟩;obtain⟨z,r⟩:=r;have fq:=aD q (R+1) 4 _ _ i.x;clear l b d f c1 k;go_wp2_with fail;have n:=aa (i.put 4 (.int .i64 (dM W)) ((nI W p _ HX.out).2.2.2 (.inl rfl)))
    go_roundw
    case rel=>exact⟨p+1,hlt,n⟩
    case measure=>rw[A.out,show(q.setCell ⟨R+1,4,none⟩ (.int .i64 (dM W))).iterPos D=p+1 by simp only[World.iterPos,n.it]];omega
   ·have k:∀ty,(Instr.next (.pointer (some ⟨D,0,none⟩)) true ty).run prog wr=.ok (.tuple #[.bool true,.int .i64 p,.int .i32 106]) y:=hn
    clear hn;have b:Hid (Calls prog 85 #[.string ⟨(dg W 106).toArray⟩] y λe w'=>e=.returned (.tuple #[.int .i64 (dM W),.bool true])/\Below y.heap.size y w'):=nG y f.out (dM W) (by have:=(mZ W h).2.2.2.2.1;omega) (by have:=(mZ W h).2.2.2.2.1;omega);generalize(⟨(dg W 106).toArray⟩:ByteArray)=s at c1 b;go_wp2_with fail;refine b.mono ?_;rintro e q ⟨rfl,l⟩;have i:=aa (d.below l);have r:∃z,q.cell? ⟨R+1,4,none⟩=some z:=⟨_,ae i.x 4⟩;obtain⟨z,r⟩:=r;have fq:=aD q (R+1) 4 _ _ i.x;clear l b d f c1 k;go_wp2_with fail;have n:=aa (i.put 4 (.int .i64 (dM W)) ((nI W p _ HX.out).2.2.2 (.inr rfl)))
    go_roundw
    case rel=>exact⟨p+1,hlt,n⟩
    case measure=>rw[A.out,show(q.setCell ⟨R+1,4,none⟩ (.int .i64 (dM W))).iterPos D=p+1 by simp only[World.iterPos,n.it]];omega
  ·have aC:p=(di W).length:=by omega
   subst aC;have hn:∀ty,(Instr.next (.pointer (some ⟨D,0,none⟩)) true ty).run prog wr=_:=λty=>py (P:=prog) wr D (fm (dO W)) (di W).length ty B.out.it hlt;have E:=B.out.x;rw[cg,Fi W h]at E;obtain⟨⟨z0,z1,z2,z3,z4,z5,z6,z7⟩,f0,f1,f2,f3,f4,f5,f6,f7⟩:=pQ E;have a9:=aa (HE.out _ B.out.bel);have a0:=aa E;have V:=aa B.out.res;have Q:=aa B.out.bel;clear B E HE f0 f1 f2 f3 f4 f5 f6 f7 z5 z6 z7;go_wp2_with fail;refine a9.mono ?_;rintro e q ⟨rfl,l⟩;have a7:=(l.block _ (ab a0.out)).trans a0.out;have a5:=(l.block _ (ab V.out)).trans V.out;have a8:=aa (Q.trans (l.mono Q.size));obtain⟨⟨s0,s1,s2,s3,s4,s5,s6,s7⟩,_,_,_,_,_,g5,_,_⟩:=pQ a7;obtain⟨⟨r0,r1,r2,r3,r4,r5,r6,r7⟩,j0,j1,j2,j3,j4,j5,j6,j7⟩:=pQ a5;have av:(q.setCell ⟨R+1,5,none⟩ (.int .u32 W)).heap[R+1]?=some (.cells #[.int .i64 (dO W),.int .i64 (dA W),.int .i64 (dB W),.int .i64 (dC W),.int .i64 (dM W),.int .u32 W,.string ⟨#[]⟩,.int .i64 0] 101 (0,0)):=aA (j:=5) a7 _;have aq:=(bW q ⟨R+1,5,none⟩ R (.int .u32 W) (show R≠R+1 by omega)).trans a5;have am:Below w.heap.size w (q.setCell ⟨R+1,5,none⟩ (.int .u32 W)):=a8.setCell (p:=⟨R+1,5,none⟩) (show w.heap.size<=R+1 by have:=F.out;omega) _;have aF:=aa av;have ay:=aa aq;have ax:=aa am;clear l a7 a5 av aq am a9 a0 V Q a8 z0 z1 z2 z3 z4;have HF:=aa λx0 x1 x2 x3 x4 x5 x6 x7=>zj ay.out ax.out (Nat.le_of_eq F.out) x0 x1 x2 x3 x4 x5 x6 x7;go_wp2_with fail;exact aN (gK (p:=2) (u:=3) rfl _ _ R 101 _ (0,0) _ rfl (HF.out _ _ _ _ _ _ _ _).1 underlying101 rfl (by kernel_rfl)) rfl ⟨rfl,(HF.out _ _ _ _ _ _ _ _).2⟩
theorem yI (w:World) (v:Value) (W:Int) (h0:0<=W) (h1:W<4294967296) (ht:Tab w) (hpow:Pow w) (hv:Ba w v (dJ W)):
  Calls prog 35 #[v] w λe w'=>e=.returned (.tuple #[.agg (itA W 0),.bool true])/\Below w.heap.size w w':=by
 by_cases h:dO W=0
 ·obtain⟨n,rfl⟩:∃n:Nat,W=n:=⟨W.toNat,by omega⟩
  exact E8 w v n (by omega) hpow h hv
 ·exact B7 w v W h0 h1 ht hpow h hv
theorem nj (W:Int):1<=(dJ W).length/\(dJ W).length<=4:=by
 unfold dJ;split
 ·simp
 ·have:(di W).length<=3:=by unfold di;rcases kL (dO W)with a|a|a|a|a|a|a<;>rw[a]<;>decide
  simp;omega
theorem Fu (w:World) (W:Int) (h0:0<=W) (h1:W<4294967296) (ht:Tab w) (hpow:Pow w):
  Calls prog 10 #[.string ⟨(dP W).toArray⟩] w λe w'=>e=.returned (.tuple #[.int .u32 W,.int .i64 0])/\Below w.heap.size w w':=by
 have m:=aa (rH w W h0 h1);have q:=aa λu v (a:Below w.heap.size w u) k=>yI u v W h0 h1 (ht.below a) (eE hpow a) k;have l:=aa λu (a:Below w.heap.size w u)=>oD u W h0 h1 (ht.below a) (eE hpow a);have A:=nj W;have x:((dP W)==(dP W))=true:=by simp
 generalize dP W=T at m l x ⊢;clear ht hpow
 go_enter func10,ntmps10
 go_wp2_with fail;refine m.mono ?_;rintro e u ⟨a,v,rfl,k⟩;have d:=aa (q.out u v a k);unfold itA at d;obtain⟨g,c,rfl,C,D,h⟩:=k;have r:=aa a;clear a h q m;go_wp2_with fail;refine d.mono ?_;rintro e z ⟨rfl,s⟩;have o:=r.trans (s.mono r.size);have f:=o.alloc o.size (.cells #[.int .i64 (dO W),.int .i64 (dA W),.int .i64 (dB W),.int .i64 (dC W),.int .i64 (dM W),.int .u32 W,.string ⟨#[]⟩,.int .i64 0] 101);have i:=aa (l.out _ f);have b:=aa f;have j:(z.alloc (.cells #[.int .i64 (dO W),.int .i64 (dA W),.int .i64 (dB W),.int .i64 (dC W),.int .i64 (dM W),.int .u32 W,.string ⟨#[]⟩,.int .i64 0] 101)).heap[z.heap.size]?=_:=af _ _;have n:=aa j;clear s o f j l d;go_wp2_with fail;refine i.mono ?_;rintro e y ⟨rfl,p⟩;have j:=(p.block _ (ab n.out)).trans n.out;have B:y.cell? ⟨z.heap.size,5,none⟩=some (.int .u32 W):=(ae j 5).trans rfl;have t:=aa (b.trans (p.mono b.size));clear p j n i b;go_wp2_with fail;go_ret2;exact⟨rfl,t.out⟩
end Go.Proofs.YtbeaaimcpkogcaaGreatDoor
