/- Lemmas on the way to the claim. -/
import Derived.Test.YtbeaaimcpkogcaaGreatDoorM18
import Derived.Test.YtbeaaimcpkogcaaGreatDoorM26
set_option linter.unusedSimpArgs false
set_option linter.unusedVariables false
set_option maxHeartbeats 2000000
set_option maxRecDepth 100000
namespace Go.Proofs.YtbeaaimcpkogcaaGreatDoor
open Go.Proofs.Tryz Go.RowKit
variable {S:Nat->Prop} {u w:World} {xs:List Tx} {W b base d d' j n:Nat} {l r x:Ex} {t t' tt:Tx} {wb wb1:Option Nat} {v:Value} {c:Int}
abbrev LtP (lo:Nat):Nat->Prop:=λk=>k<lo
structure WR (w:World) (W:Nat) (t:Tx) (d:Nat) (wb:Option Nat):Prop where
 ex:∃p v,w.heap[W]?=some (.cells #[p,v,.int .i64 d,.bool false] 69 (0,0))/\(p=(.pointer none:Value)\/p=pB W)/\w.ownsRow (W+1) 5 1 v t.length (Lib.strCells ⟨t.toArray⟩)/\v.ownBlock=wb/\(t=[]->v=(.slice none 0 0:Value))
 tab : Lib.TabBelow prog W w "internal/strconv.uint64pow10" .u64 Lib.pow10Tab
def WW (W:Nat) (wb:Option Nat):Nat->Prop:=λi=>i=W\/wb=some i
def cE (W:Nat) (t:Tx) (d:Nat) (wb:Option Nat) (w0 w:World):Prop:=
 Chg (WW W wb) w0 w/\∃wb',WR w W t d wb'/\(wb'=wb\/∀q,wb'=some q->w0.heap.size<=q)
section
variable {w w0 u v z:World} {W:Nat} {t t':Tx} {d d':Nat} {wb wb':Option Nat}
theorem WR.ge (h:WR w W t d wb):∀q,wb=some q->W<q/\q<w.heap.size:=λq hq=>by
 obtain⟨p,x,_,_,b,a,_⟩:=h.ex;rw[hq]at a;exact⟨cG b q a,wT b a⟩
theorem WR.lt (h:WR w W t d wb):W<w.heap.size:=by obtain⟨p,x,hn,_⟩:=h.ex;exact ab hn
theorem Chg.low (hc:Chg S w u) (hw:W<=w.heap.size) (hs:∀k,k<W->¬S k):Below W w u:=
 ⟨hc.os,hc.tape,hc.output,hc.size,λk hk=>hc.block k (bu hk hw) (hs k hk)⟩
theorem WR.chg (h:WR w W t d wb) (hc:Chg S w u) (h1:¬S W) (h2:∀q,wb=some q->¬S q) (h3:∀k,k<W->¬S k):WR u W t d wb:=by
 obtain⟨p,x,hn,e,c,a,b⟩:=h.ex;exact⟨⟨p,x,(hc.block W (ab hn) h1).trans hn,e,du c hc (λq hq=>h2 q (a.symm.trans hq)),a,b⟩,h.tab.on (hc.low (Nat.le_of_lt h.lt) h3)⟩
theorem WR.below (h:WR w W t d wb) (hb:Below w.heap.size w u):WR u W t d wb:=h.chg (Chg.of_below (S:=λ_=>False) hb) id (λ_ _=>id) λ_ _=>id
theorem WR.low (h:WR w W t d wb) (hc:Chg (WW W wb) w u):Below W w u:=hc.low (Nat.le_of_lt h.lt) λk hk e=>by
 rcases e with rfl|e
 ·exact Nat.lt_irrefl _ hk
 ·have:=(h.ge k e).1;omega
theorem cE.start (h:WR w W t d wb):cE W t d wb w w:=⟨Chg.refl _ _,wb,h,.inl rfl⟩
theorem cE.below (h:cE W t d wb w u) (hb:Below u.heap.size u v):cE W t d wb w v:=by
 obtain⟨e,a,b,c⟩:=h;exact⟨e.on hb,a,b.below hb,c⟩
theorem WW.then (h:Chg (WW W wb) w u) (h2:Chg (WW W wb') u v) (hu:wb'=wb\/∀q,wb'=some q->w.heap.size<=q):Chg (WW W wb) w v:=by
 refine h.trans h2 λi hi a=>?_;rcases a with a|a
 ·exact .inl a
 ·rcases hu with rfl|hu
  ·exact .inr a
  ·have:=hu i a;omega
theorem cE.then (h:cE W t d wb w u) (h2:∀wb',WR u W t d wb'->cE W t' d' wb' u v):cE W t' d' wb w v:=by
 obtain⟨e,wb',g,f⟩:=h;obtain⟨b,c,i,a⟩:=h2 wb' g;refine⟨WW.then e b f,c,i,?_⟩;rcases a with rfl|a
 ·exact f
 ·exact .inr λq hq=>ay e.size (a q hq)
theorem cE.call {N:FuncId} {args:Array Value} {R:Ending->Prop} (h:cE W t d wb w u) (hc:∀wb',WR u W t d wb'->Calls prog N args u λe v=>R e/\cE W t' d' wb' u v):Calls prog N args u λe v=>R e/\cE W t' d' wb w v:=by
 obtain⟨f,wb',i,g⟩:=h;refine(hc wb' i).mono ?_;rintro e v ⟨k,l⟩;obtain⟨b,c,j,a⟩:=l;refine⟨k,WW.then f b g,c,j,?_⟩;rcases a with rfl|a
 ·exact g
 ·exact .inr λq hq=>ay f.size (a q hq)
theorem cE.tree (h0:WR w W t' d' wb) (h:cE W t d wb w u):aX (LtP W) w u:=h.1.sameOn λk hk e=>by
 rcases e with rfl|e
 ·exact Nat.lt_irrefl _ hk
 ·have a:k<W:=hk
  have:=(h0.ge k e).1;omega
variable {P:Program}
theorem qp (w:World) (base:Nat) (t u ty e:TypeId) (i:TypeInfo) (ht:P.underlying t=some (.slice e)) (hu:P.underlying u=some .string) (hi:P.info? e=some i) (hz:i.zero=some (.int .u8 0)) (hsize:i.size=1) (hby:i.bytes=1)
 (v:Value) (n:Nat) (xs:List Value) (hown:w.ownsRow base e 1 v n xs) (s:ByteArray) (h63:n+s.size<=maxLen) (hbytes:n+s.size<=140737488355328) (hbase:base<=w.heap.size):
  ∃v' w',(Builtin.append_ #[t,u] ty #[v,.string s]).run P w=.ok v' w'/\w'.ownsRow base e 1 v' (n+s.size) (xs++Lib.strCells s)/\w.grownBy w' v.ownBlock/\(v'=.slice none 0 0<->v=.slice none 0 0/\s.size=0)/\(v'.ownBlock=v.ownBlock\/∀q,v'.ownBlock=some q->w.heap.size<=q):=by
 rcases hown.2 with⟨j,hn⟩|⟨g,a,d,j,r,z,A,x,y,h⟩
 ·have p:w.ownsRow w.heap.size e 1 v n xs:=⟨hown.1,.inl ⟨j,hn⟩⟩
  obtain⟨v',w',b,f,l,m⟩:=Lib.run_append_own_string (P:=P) w w.heap.size t u ty e i ht hu hi hz hsize hby v n xs p s h63 hbytes (ag _);obtain⟨E,F,o,B,C,D⟩:=Lib.run_append_own_string (P:=P) w base t u ty e i ht hu hi hz hsize hby v n xs hown s h63 hbytes hbase;rw[b]at o;injection o with e1 e2;subst e1 e2;exact⟨v',w',b,B,C,D,.inr λq hq=>cG f q hq⟩
 ·obtain⟨v',w',b,f,l,m⟩:=Lib.run_append_own_string (P:=P) w base t u ty e i ht hu hi hz hsize hby v n xs hown s h63 hbytes hbase
  refine⟨v',w',b,f,l,m,?_⟩;have k:xs.length=n:=by simpa using hown.1
  subst j
  by_cases hroom:n+s.size<=a
  ·have c:=Lib.run_append_room_string (P:=P) w t u ty e i ht hu hi hsize g n a d z s hroom (by omega)
   rw[b]at c;injection c with e1 e2;subst e1;exact .inl rfl
  ·have c:=Lib.run_append_grow_string (P:=P) w t u ty e i (.int .u8 0) ht hu hi hz ⟨g,0,none⟩ n a xs (by rw[hsize];simpa using k) (hown.cells (g:=g) rfl) s (by omega) (by simp only[maxLen]at h63;omega) (by rw[hby];exact growslice_fits (by omega) (by omega))
   rw[b]at c;injection c with e1 e2;subst e1;exact .inr λq hq=>by simp only[Value.ownBlock,aq]at hq;omega
theorem nh {ops:Array Oper} {rest:List Oper} {o:Oper} {a:Act} {Q:Exit->Act->World->Prop} (hgd:o.guard=none) (s x:Operand) (t u:TypeId)
 (ho:o.op=.call { callee:=.builtin .append,args:=#[s,x],argTypes:=#[t,u] })
 (base:Nat) (e:TypeId) (i:TypeInfo) (ht:P.underlying t=some (.slice e)) (hu:P.underlying u=some .string) (hi:P.info? e=some i) (hz:i.zero=some (.int .u8 0)) (hsize:i.size=1) (hby:i.bytes=1)
 (v:Value) (n:Nat) (xs:List Value) (hs:a.eval s=v) (hown:w.ownsRow base e 1 v n xs) (tx:ByteArray) (hx:a.eval x=.string tx) (h63:n+tx.size<=maxLen) (hbytes:n+tx.size<=140737488355328) (hbase:base<=w.heap.size)
 (h:∀v' w',w'.ownsRow base e 1 v' (n+tx.size) (xs++Lib.strCells tx)->w.grownBy w' v.ownBlock->(v'=.slice none 0 0<->v=.slice none 0 0/\tx.size=0)->(v'.ownBlock=v.ownBlock\/∀q,v'.ownBlock=some q->w.heap.size<=q)->wpList P ops Q rest (a.put o.dst v') w'):wpList P ops Q (o::rest) a w:=by
 refine wpList_plain hgd λK hK=>?_;obtain⟨v',w',g,b,c,d,f⟩:=qp (P:=P) w base t u o.type e i ht hu hi hz hsize hby v n xs hown tx h63 hbytes hbase;unfold Oper.wp execOp;simp only[ho,resolve,invoke,builtin,jX,Sem.run_pure,vT,tM,dX,kW,hs,hx,g];exact hK _ _ (h v' w' b c d f)
end
theorem Ak:(Tryz.prog.info? 67).map (·.size)=some 2:=by kernel_rfl
theorem E9:liesAt prog Tryz.prog.depth 69 (4/Tryz.prog.cellsOf 69) 0 67 1=true:=by kernel_rfl
theorem Ey (w:World) (W:Nat) (p v dv bv:Value) (hn:w.heap[W]?=some (.cells #[p,v,dv,bv] 69 (0,0))) (hp:p=(.pointer none:Value)\/p=pB W):
  Calls prog 101 #[pB W] w λe w'=>e=.returned (.tuple #[])/\w'.heap[W]?=some (.cells #[pB W,v,dv,bv] 69 (0,0))/\Chg (·=W) w w':=by
 obtain⟨j,b,c⟩:=Option.map_eq_some_iff.1 Ak;have h:w.cell? ⟨W,0,none⟩=some p:=(ae hn 0).trans rfl;have a:w.shape? W=some (69,4):=by simp[World.shape?,hn]
 have i:=aD w W 0 _ _ hn;have d:=aa hn;clear hn;rcases hp with rfl|rfl
 ·have f:=aa (show Chg (·=W) w (w.setCell ⟨W,0,none⟩ (pB W)) from(Chg.refl (·=W) w).setCell (p:=⟨W,0,none⟩) (λ_=>rfl) _)
  have g:=aa (aA (j:=0) d.out (pB W))
  go_enter func101,ntmps101
  go_wp2
  rw[Lib.run_to_unsafe w ⟨W,0,none⟩ underlying64 underlying151 b (by rw[c];decide) a (by show 0<4;decide)];simp only[Result.andThen];rw[Oper.upon_value]
  go_wp2
  rw[run_callFunc_extern func158 (by kernel_rfl) (by kernel_rfl) (by kernel_rfl) (e:=Extern.AbiNoEscape.same) (by kernel_rfl)];rw[Lib.run_noEscape];simp only[Result.andThen];rw[Oper.upon_value]
  go_wp2
  rw[Lib.run_from_unsafe w ⟨W,0,none⟩ underlying151 underlying64 b a E9];simp only[Result.andThen];rw[Oper.upon_value]
  go_wp2
  go_end0;exact⟨rfl,g.out,f.out⟩
 ·go_enter func101,ntmps101
  go_wp2
  rw[Lib.run_neq_ptr_same w _ underlying64 b]
  go_wp2
  go_end0;exact⟨rfl,d.out,Chg.refl _ _⟩
theorem yk (w:World) (W:Nat) (t:Tx) (d:Nat) (wb:Option Nat) (s:Tx) (h:WR w W t d wb) (hl:(t++s).length<=100000000000):
  Calls prog 49 #[pB W,.string ⟨s.toArray⟩] w λe w'=>e=.returned (.tuple #[.int .i64 s.length,.nilIface])/\cE W (t++s) d wb w w':=by
 obtain⟨p,v,hn,Y,F,N,O⟩:=h.ex;obtain⟨i0,V,G,H,I⟩:=cX Tryz.info5P;have X:=ab hn;have r:=aa (Ey w W p v _ _ hn Y);have Q:=aa F;have K:=aa N;have P:=aa O;have B:=cG F;have L:=aa B;have HL:=aa hl;have M:=aa h;rw[ac]at hl;clear h hn F N O B
 go_enter func49,ntmps49
 go_wp2_with fail;refine r.mono ?_;rintro e o ⟨rfl,m,f⟩;have c1:o.cell? ⟨W,1,none⟩=some v:=(ae m 1).trans rfl;have C:o.ownsRow (W+1) 5 1 v t.length (Lib.strCells ⟨t.toArray⟩):=du Q.out f λq hq e=>by have:=L.out q hq;omega
 have Z:=f.size;have D:=aa f;have x:=aa m;clear f m r
 go_wp2_with (at_builtin;refine nh rfl _ _ 65 9 rfl (W+1) 5 i0 underlying65 underlying9 V G H I _ _ _ rfl C ⟨s.toArray⟩ rfl ?c3 ?c4 ?c5 ?_)
 case c3=>show t.length+s.length<=_;unfold maxLen;omega
 case c4=>show t.length+s.length<=_;omega
 case c5=>omega
 intro v' n b a g y;obtain⟨E,J,l,rfl⟩:=cc b;have A:Chg (WW W v.ownBlock) o n:=(Chg.refl _ o).grown a λk hk _=>.inr hk;have c:n.heap[W]?=_:=(a.block W (ab x.out) (λe=>by have:=L.out W e.symm;omega)).trans x.out;have d1:n.cell? ⟨W,1,none⟩=some v:=(ae c 1).trans rfl;have f1:=aD n W 1 _ _ c;have u:=aa (show cE W (t++s) d wb w (n.setCell ⟨W,1,none⟩ (.slice E J l)) by
  have z:Chg (WW W wb) w (n.setCell ⟨W,1,none⟩ (.slice E J l)):=by
   have T:Chg (WW W wb) w o:=D.mono λi _ e=>.inl e;have U:Chg (WW W wb) o n:=K.out▸A;exact(T.then U).setCell (p:=⟨W,1,none⟩) (λ_=>.inl rfl) _
  refine⟨z,Value.ownBlock (.slice E J l),⟨⟨pB W,_,aA (j:=1) c _,.inr rfl,?_,rfl,λe=>?_⟩,M.tab.on (M.low z)⟩,?_⟩
  ·rw[ac,<- yy]
   exact bg b (show W<W+1 from cI W) _
  ·obtain⟨R,S⟩:=List.append_eq_nil_iff.1 e
   exact g.2 ⟨P.out R,by subst S;rfl⟩
  ·rcases y with e|e
   ·exact .inl (e.trans K.out)
   ·exact .inr λq hq=>by have:=e q hq;omega)
 clear b a A c g y;go_wp2_with fail;go_ret2;exact⟨rfl,u.out⟩
def vS (w:World) (G:Nat) (xs:List Tx):Prop:=∀(j:Nat) (x:Tx),xs[j]?=some x->w.cell? ⟨G,j,none⟩=some (.string ⟨x.toArray⟩)
theorem vS.chg {w':World} {G:Nat} (h:vS w G xs) (hc:Chg S w w') (hn:¬S G):vS w' G xs:=λj x hj=>by
 have b:=h j x hj;exact(aI (w:=w) (a:=⟨G,j,none⟩) (hc.block G (aH b) hn)).trans b
theorem Dm {x:Tx} (h:xs[j]?=some x) (t:Tx):t++(xs.take j).flatten++x=t++(xs.take (j+1)).flatten:=by
 rw[bT,h,cy,List.flatten_append];simp
theorem Ji {x:Tx} (h:xs[j]?=some x) (t:Tx):(t++(xs.take j).flatten++x).length<=(t++xs.flatten).length:=by
 rw[Dm h];have e:xs.flatten=(xs.take (j+1)).flatten++(xs.drop (j+1)).flatten:=by rw[<- List.flatten_append,List.take_append_drop]
 rw[e];simp only[ac];omega
theorem gd (h:j<n):n-((j:Int)+1).toNat<n-(j:Int).toNat:=by omega
theorem JT (w:World) (W:Nat) (t:Tx) (d:Nat) (wb:Option Nat) (G n c:Nat) (xs:List Tx) (h:WR w W t d wb) (hG:vS w G xs) (hGW:¬G=W) (hGb:¬wb=some G) (hn:n=xs.length) (hn2:n<=1000000) (hl:(t++xs.flatten).length<=100000000000):
  Calls prog 65 #[pB W,.slice (some ⟨G,0,none⟩) n c] w λe w'=>e=.returned (.tuple #[])/\cE W (t++xs.flatten) d wb w w':=by
 have l:=aa (show cE W (t++(xs.take 0).flatten) d wb w w by rw[bO,List.flatten_nil,bo];exact cE.start h);have v:=aa hG;have r:Hid (¬WW W wb G):=λe=>e.elim hGW hGb;have s:=aa hn;have y:=aa hl;clear h hG hn hl
 go_enter func65,ntmps65
 go_wp2_with fail
 go_loopw [5,8] (λ_ s8 wr=>∃j:Nat,s8=.int .i64 j/\j<=n/\Hid (cE W (t++(xs.take j).flatten) d wb w wr)) (λ_ s8 _=>match s8 with | .int _ j=>n-j.toNat|_=>0)
 case atStart=>exact⟨0,rfl,aV _,l⟩
 case round =>
  clear l
  rename World=>w5
  obtain⟨j,rfl,z,p⟩:=hrel
  by_cases hlt:j<n
  ·obtain⟨x,q⟩:∃x,xs[j]?=some x:=⟨_,aw (by have:=s.out;omega)⟩
   have m:decide ((j:Int)<(n:Int))=true:=by simp;omega
   have o:n-((j:Int)+1).toNat<n-(j:Int).toNat:=gd hlt;have a:=v.chg p.out.1 r.out j x q;have f:=aa (p.out.call (N:=49) (args:=#[pB W,.string ⟨x.toArray⟩]) (R:=λe=>e=.returned (.tuple #[.int .i64 x.length,.nilIface])) λwb' h'=>yk w5 W _ d wb' x h' (ay (Ji q t) y.out));have i:=aa (Dm q t);clear p q;go_wp2_with fail;refine f.mono ?_;rintro e u ⟨rfl,b⟩;rw[i.out]at b;have k:=aa b;clear b f i a;go_wp2_with fail;exact⟨⟨j+1,by simp,hlt,k⟩,o⟩
  ·have m:decide ((j:Int)<(n:Int))=false:=by simp;omega
   have g:=aa (show cE W (t++xs.flatten) d wb w w5 by have:=p.out;rw[cH (by have:=s.out;omega)]at this;exact this);clear p;go_wp2_with fail;go_end0;exact⟨rfl,g.out⟩
theorem Bc (w:World) (W:Nat) (t:Tx) (d:Nat) (wb:Option Nat) (G c:Nat) (x:Tx) (fm:FrameMode) (h:WR w W t d wb) (hG:w.cell? ⟨G,0,none⟩=some (.string ⟨x.toArray⟩)) (hl:(t++x).length<=100000000000):
  CallsD prog 65 #[pB W,.slice (some ⟨G,0,none⟩) 1 c] fm w λe fm' w'=>fm'=fm/\(e=.returned (.tuple #[])/\cE W (t++x) d wb w w'):=by
 have a:=aa (yk w W t d wb x h hl);clear h hl
 go_enter_d func65,ntmps65
 go_wp2_with fail;refine bC 2 ?_;rw[aO];go_wp2_with fail;refine a.mono ?_;rintro e u ⟨rfl,f⟩;have b:=aa f;clear f a hG;go_wp2_with fail;rw[aO];go_wp2_with fail;go_end0;exact⟨rfl,b.out⟩
section
variable {w u v z:World} {W:Nat} {t t':Tx} {d d':Nat} {wb:Option Nat} {c:Nat}
theorem nL (w:World) (o:Obj):(w.alloc o).heap[w.heap.size]?=some o:=af w o
theorem cE.putL (h:cE W t d wb w u) (xs:List Tx) (hx:xs.length<=1000000) (o:Obj) (ho:vS (u.alloc o) u.heap.size xs) (hl:(t++xs.flatten).length<=100000000000):
  Calls prog 65 #[pB W,.slice (some ⟨u.heap.size,0,none⟩) xs.length c] (u.alloc o) λe v=>e=.returned (.tuple #[])/\cE W (t++xs.flatten) d wb w v:=by
 obtain⟨j,g,b,k⟩:=h;have p:=b.ge;have s:=b.lt;refine(JT (u.alloc o) W t d g u.heap.size xs.length c xs (b.below (az)) ho (by omega) (λe=>by have:=p _ e;omega) rfl hx hl).mono ?_;rintro e v ⟨n,f,i,l,a⟩;refine⟨n,WW.then (j.alloc o) f k,i,l,?_⟩;rcases a with rfl|a
 ·exact k
 ·exact .inr λq hq=>by have m:=a q hq;have r:=j.size;simp at m;omega
theorem LI (u:World) (x:Tx):vS (u.alloc (.cells #[.string ⟨x.toArray⟩] 9)) u.heap.size [x]:=λj y hj=>by
 match j,hj with
 | 0,hj=>simp at hj;subst hj;exact(ae (nL u (.cells #[.string ⟨x.toArray⟩] 9)) 0).trans rfl
theorem MQ (u:World) (x y:Tx):vS (u.alloc (.cells #[.string ⟨x.toArray⟩,.string ⟨y.toArray⟩] 9)) u.heap.size [x,y]:=λj z hj=>by
 have hn:=nL u (.cells #[.string ⟨x.toArray⟩,.string ⟨y.toArray⟩] 9)
 match j,hj with
 | 0,hj=>simp at hj;subst hj;exact(ae hn 0).trans rfl
 | 1,hj=>simp at hj;subst hj;exact(ae hn 1).trans rfl
theorem MP (u:World) (x y z:Tx):vS (u.alloc (.cells #[.string ⟨x.toArray⟩,.string ⟨y.toArray⟩,.string ⟨z.toArray⟩] 9)) u.heap.size [x,y,z]:=λj a hj=>by
 have hn:=nL u (.cells #[.string ⟨x.toArray⟩,.string ⟨y.toArray⟩,.string ⟨z.toArray⟩] 9)
 match j,hj with
 | 0,hj=>simp at hj;subst hj;exact(ae hn 0).trans rfl
 | 1,hj=>simp at hj;subst hj;exact(ae hn 1).trans rfl
 | 2,hj=>simp at hj;subst hj;exact(ae hn 2).trans rfl
theorem cE.put1 (h:cE W t d wb w u) (x:Tx) (hl:(t++x).length<=100000000000):
  Calls prog 65 #[pB W,.slice (some ⟨u.heap.size,0,none⟩) 1 c] (u.alloc (.cells #[.string ⟨x.toArray⟩] 9)) λe v=>e=.returned (.tuple #[])/\cE W (t++x) d wb w v:=by
 have e:[x].flatten=x:=by simp
 have:=h.putL (c:=c) [x] (by simp) _ (LI u x) (by rw[e];exact hl);rw[e]at this;exact this
theorem cE.put2 (h:cE W t d wb w u) (x y:Tx) (hl:(t++(x++y)).length<=100000000000):
  Calls prog 65 #[pB W,.slice (some ⟨u.heap.size,0,none⟩) 2 c] (u.alloc (.cells #[.string ⟨x.toArray⟩,.string ⟨y.toArray⟩] 9)) λe v=>e=.returned (.tuple #[])/\cE W (t++(x++y)) d wb w v:=by
 have e:[x,y].flatten=x++y:=by simp
 have:=h.putL (c:=c) [x,y] (by simp) _ (MQ u x y) (by rw[e];exact hl);rw[e]at this;exact this
theorem cE.put3 (h:cE W t d wb w u) (x y z:Tx) (hl:(t++(x++(y++z))).length<=100000000000):
  Calls prog 65 #[pB W,.slice (some ⟨u.heap.size,0,none⟩) 3 c] (u.alloc (.cells #[.string ⟨x.toArray⟩,.string ⟨y.toArray⟩,.string ⟨z.toArray⟩] 9)) λe v=>e=.returned (.tuple #[])/\cE W (t++(x++(y++z))) d wb w v:=by
 have e:[x,y,z].flatten=x++(y++z):=by simp
 have:=h.putL (c:=c) [x,y,z] (by simp) _ (MP u x y z) (by rw[e];exact hl);rw[e]at this;exact this
end
theorem cO {k0 n:Int} {nm:Tx} {l r a:Value} {ln:Int} (h:w.heap[b]?=some (exC k0 n nm t l r a ln)):
  w.cell? ⟨b,0,none⟩=some (.int .i64 k0)/\w.cell? ⟨b,1,none⟩=some (.int .u32 n)/\w.cell? ⟨b,2,none⟩=some (.string ⟨nm.toArray⟩)/\w.cell? ⟨b,3,none⟩=some (.string ⟨t.toArray⟩)/\w.cell? ⟨b,4,none⟩=some l/\w.cell? ⟨b,5,none⟩=some r/\w.cell? ⟨b,6,none⟩=some a:=
 ⟨(ae h 0).trans rfl,(ae h 1).trans rfl,(ae h 2).trans rfl,(ae h 3).trans rfl,(ae h 4).trans rfl,(ae h 5).trans rfl,(ae h 6).trans rfl⟩
def Gm (w:World) (W:Nat) (v:Value) (t:Tx):Prop:=(t=[]/\v=.slice none 0 0)\/(t≠[]/\∃g cap cur fz,v=.slice (some ⟨g,0,none⟩) t.length cap/\W<g/\w.heap[g]?=some (.cells cur 5 fz)/\t.length<=cap/\cap<=maxLen/\cur.size=cap/\∀(j:Nat) (x:UInt8),t[j]?=some x->cur[j]?=some (.int .u8 (x.toNat:Int)))
def SF (w:World) (W:Nat) (t:Tx):Prop:=∃p v d,w.heap[W]?=some (.cells #[p,v,d,.bool false] 69 (0,0))/\Gm w W v t
theorem SF.of (h:WR w W t d wb):SF w W t:=by
 obtain⟨p,v,hn,_,i,_,q⟩:=h.ex;refine⟨p,v,_,hn,?_⟩
 by_cases ht:t=[]
 ·exact .inl ⟨ht,q ht⟩
 ·refine .inr ⟨ht,?_⟩
  rcases i.2 with⟨_,l⟩|⟨g,a,b,k,r,f,m,n,o,s⟩
  ·exact absurd (List.length_eq_zero_iff.1 l) ht
  ·refine⟨g,a,b,(0,0),k,r,f,m,n,by simpa using o,λj x hj=>?_⟩
   have u:=(aE.1 hj).1;have:=i;subst k;have c:=this.cellAt j (by omega);have e:(Lib.strCells ⟨t.toArray⟩)[j]?=some (.int .u8 (x.toNat:Int)):=by unfold Lib.strCells;simp[hj]
   rw[e,gN w g j _ _ _ f]at c;exact c
theorem Gm.below (h:Gm w W v t) (hb:Below w.heap.size w u):Gm u W v t:=by
 rcases h with h|⟨e,g,a,b,d,f,i,c,j⟩
 ·exact .inl h
 ·exact .inr ⟨e,g,a,b,d,f,i,(hb.block g (ab c)).trans c,j⟩
theorem SF.below (h:SF w W t) (hb:Below w.heap.size w u):SF u W t:=by
 obtain⟨p,v,d,hn,a⟩:=h;exact⟨p,v,d,(hb.block W (ab hn)).trans hn,a.below hb⟩
theorem xA (w:World) (g n:Nat) {cur:Array Value} {fz:Nat×Nat} (h:w.heap[g]?=some (.cells cur 5 fz)):∃fz',(w.freeze ⟨g,0,none⟩ n).heap[g]?=some (.cells cur 5 fz'):=by
 have a:=ab h;unfold World.freeze;split
 ·exact⟨_,h⟩
 ·simp only[Array.getElem?_modify,tr,h,kV]
  first|exact⟨_,rfl⟩|(split<;>exact⟨_,rfl⟩)
theorem vi (w:World) (g n k:Nat) (h:k≠g):(w.freeze ⟨g,0,none⟩ n).heap[k]?=w.heap[k]?:=by
 unfold World.freeze;split
 ·rfl
 ·simp only[Array.getElem?_modify]
  rw[ap (by omega)]
theorem JU (w:World) (W:Nat) (t:Tx) (d:Nat) (wb:Option Nat) (h:WR w W t d wb):
  Calls prog 19 #[pB W] w λe w'=>e=.returned (.int .i64 (t.length:Int))/\w=w':=by
 obtain⟨p,v,hn,_,f,_,l⟩:=h.ex;obtain⟨a,m,c,rfl⟩:=cc f;have o:m=t.length:=by
  rcases f.2 with⟨i,q⟩|⟨g,j,k,i,_⟩
  ·injection i with _ h2 _;omega
  ·injection i with _ h2 _
 have c1:w.cell? ⟨W,1,none⟩=some (.slice a m c):=(ae hn 1).trans rfl;subst o;obtain⟨n,b⟩:∃n,t.length=n:=⟨_,rfl⟩;rw[b]at c1 ⊢;clear h hn f l b
 go_enter func19,ntmps19
 go_wp2_with fail;go_ret;exact⟨rfl,rfl⟩
theorem ud (w:World) (W:Nat) (t:Tx) (h:SF w W t):Calls prog 20 #[pB W] w λe w'=>e=.returned (.string ⟨t.toArray⟩)/\Below (W+1) w w'/\SF w' W t:=by
 obtain⟨p,v,d,hn,I⟩:=h;have F:=ab hn;rcases I with⟨rfl,rfl⟩|⟨y,g,a,b,D,rfl,z,s,o,l,m,C⟩
 ·have i:∀W' q,(Builtin.unsafeString_ #[144,3] 9 #[.pointer q,.int .i64 0]).run prog W'=.ok (.string .empty) W':=λW' q=>Lib.run_unsafeString_none W' _ _ _ q
  have c1:w.drew.cell? ⟨W,1,none⟩=some (.slice none 0 0):=by
   have:w.drew.heap[W]?=some (.cells #[p,.slice none 0 0,d,.bool false] 69 (0,0)):=hn;exact(ae this 1).trans rfl
  have f:(Builtin.unsafeSliceData_ #[65] 144 #[.slice none 0 0]).run prog w.drew=.ok (.pointer none) w.drew:=rfl;have E:=aa hn;clear hn
  go_enter func20,ntmps20
  go_wp2
  go_region
  all_goals (go_wp2;go_ret;exact⟨rfl,Below.drew (ai _ w),p,_,d,E.out,.inl ⟨rfl,rfl⟩⟩)
 ·have B:t.length≠0:=by simpa using y
  have c1:w.drew.cell? ⟨W,1,none⟩=some (.slice (some ⟨g,0,none⟩) t.length a):=by
   have:w.drew.heap[W]?=some (.cells #[p,.slice (some ⟨g,0,none⟩) t.length a,d,.bool false] 69 (0,0)):=hn;exact(ae this 1).trans rfl
  have f:(Builtin.unsafeSliceData_ #[65] 144 #[.slice (some ⟨g,0,none⟩) t.length a]).run prog w.drew=.ok (.pointer (some ⟨g,0,none⟩)) w.drew:=
   Lib.run_unsafeSliceData_row _ _ _ _ _ _ (by omega)
  have i:(Builtin.unsafeString_ #[144,3] 9 #[.pointer (some ⟨g,0,none⟩),.int .i64 t.length]).run prog w.drew=.ok (.string ⟨t.toArray⟩) (w.drew.freeze ⟨g,0,none⟩ t.length):=by
   refine Lib.run_unsafeString_row w.drew 144 3 9 5 underlying144 (by kernel_rfl) g b.size (by have A:w.drew.heap[g]?=some (.cells b 5 D):=s;simp[World.shape?,A]) t y (by omega) (by unfold maxLen at l;omega) ?_;intro j x H;have k:(⟨g,0,none⟩:Addr).add j=⟨g,j,none⟩:=by unfold Addr.add;split<;>simp_all
   rw[k,gN w.drew g j _ _ _ s];exact C j x H
  have c:Hid (Below (W+1) w (w.drew.freeze ⟨g,0,none⟩ t.length)/\SF (w.drew.freeze ⟨g,0,none⟩ t.length) W t):=by
   refine⟨Lib.below_freeze (Below.drew (ai _ w)) (p:=⟨g,0,none⟩) (by show W+1<=g;omega) _,?_⟩;obtain⟨u,G⟩:=xA w.drew g t.length (show w.drew.heap[g]?=some (.cells b 5 D) from s);exact⟨p,_,d,(vi w.drew g t.length W (by omega)).trans hn,.inr ⟨y,g,a,b,u,rfl,z,G,o,l,m,C⟩⟩
  obtain⟨n,r⟩:∃n,t.length=n:=⟨_,rfl⟩;rw[r]at c1 f i c;clear hn s C m r B o
  go_enter func20,ntmps20
  go_wp2
  go_region
  all_goals (go_wp2;go_ret;exact⟨rfl,c.out⟩)
def PEx (x:Ex):Prop:=∀(w:World) (W:Nat) (t:Tx) (d:Nat) (wb:Option Nat) (b:Nat) (c:Int),WR w W t d wb->bK w (LtP W) b x->ExP x->c<=8->(t++exT x c).length<=100000000000 ->
 Calls prog 174 #[pB W,pB b,.int .i64 c] w λe w'=>e=.returned (.tuple #[])/\cE W (t++exT x c) d wb w w'
theorem cE.ex (h:cE W t d wb w u) (hx:PEx x) (ho:bK u (LtP W) b x) (hp:ExP x) (hc:c<=8) (hl:(t++exT x c).length<=100000000000):
  Calls prog 174 #[pB W,pB b,.int .i64 c] u λe v=>e=.returned (.tuple #[])/\cE W (t++exT x c) d wb w v:=
 h.call (R:=λe=>e=.returned (.tuple #[])) λwb' h'=>hx u W t d wb' b c h' ho hp hc hl
theorem gi (h:c<=lvl x):exT x c=cV x:=by unfold exT lg IE;rw[iV (by omega)];simp
theorem GW (h:lvl x<c):exT x c=40::(cV x++[41]):=by unfold exT lg IE;rw[dr h];simp
theorem LW (n:Nat):PEx (.num n):=by
 intro w W t d H b c h m g r f;rw[bK]at m;obtain⟨D,E,hn⟩:=m;unfold ExP at g;have a:t++Lib.decDigits n=t++exT (.num n) c:=by
  rw[gi (x:=.num n) (show c<=8 from r),cV,La g]
 rw[<- a]at f ⊢;have p:=aa f;obtain⟨u,v,y,z,A,B,C⟩:=cO hn;have j:=aa (Di n g w h.tab.here);have o:=aa h;have s:(n:Int)<4294967296:=by omega
 clear h a f hn
 go_enter func174,ntmps174
 go_wp2_with fail;refine j.mono ?_;rintro e F ⟨rfl,l⟩;have i:=aa (((cE.start o.out).below l).put1 (c:=1) (Lib.decDigits n) (by have:=p.out;simp only[ac]at this ⊢;omega));clear l j u v y z A B C;go_wp2_with fail;refine i.mono ?_;rintro e G ⟨rfl,k⟩;have q:=aa k;clear k i;go_wp2_with fail;go_end0;exact⟨rfl,q.out⟩
theorem Kv (s:Tx):PEx (.name s):=by
 intro w W t d H b c h l E q g;rw[bK]at l;obtain⟨o,F,hn⟩:=l;have a:t++s=t++exT (.name s) c:=by
  rw[gi (x:=.name s) (show c<=8 from q)];simp[cV,exT,aF]
 rw[<- a]at g ⊢;have C:=aa h;have D:=aa hn;have n:=aa g;have p:b<W:=o;obtain⟨r,u,v,y,z,A,B⟩:=cO hn;have j:=cE.start h;clear h a g;have i:aX (LtP W) w w:=λ_ _ _ h=>h;have f:=aa (j.put1 (c:=1) s (by have:=n.out;simp only[ac]at this ⊢;omega));clear j i
 go_enter func174,ntmps174
 go_wp2_with fail;refine f.mono ?_;rintro e G ⟨rfl,k⟩;have m:=aa k;clear k f r u v y z A B;go_wp2_with fail;go_end0;exact⟨rfl,m.out⟩
theorem Kx (H0:PEx l) (H1:PEx r):PEx (.cell l r):=by
 intro w W t d wb b c h Q R U M;rw[bK]at Q;obtain⟨T,X,V,Y,hn,A,B⟩:=Q;unfold ExP at R;obtain⟨N,C⟩:=R;have a:t++exT l 8++[91]++exT r 1++[93]=t++exT (.cell l r) c:=by
  rw[gi (x:=.cell l r) (show c<=8 from U)];rw[gi (gU C)];simp[cV,exT,aF]
 rw[<- a]at M ⊢;have H:=aa h;have I:=aa hn;have G:=aa M;have f:b<W:=T;obtain⟨i,j,k,m,n,o,p⟩:=cO hn;have y:=aa A;have z:=aa B;have O:=cE.start h;clear h a M A B;have D:aX (LtP W) w w:=λ_ _ _ h=>h;have q:=aa (O.ex H0 (y.onA D) N (c:=8) (by omega) (by have:=G.out;simp only[ac]at this ⊢;omega));clear O D
 go_enter func174,ntmps174
 go_wp2_with fail;refine q.mono ?_;rintro e Z ⟨rfl,J⟩;have E:=J.tree H.out;clear q i j k m n o p;obtain⟨i,j,k,m,n,o,p⟩:=cO (E b _ f I.out);have s:=aa (J.put1 (c:=1) [91] (by have:=G.out;simp only[ac]at this ⊢;omega));clear J E;go_wp2_with fail;refine s.mono ?_;rintro e u2 ⟨rfl,K⟩;have g:=K.tree H.out;clear s i j k m n o p;obtain⟨i,j,k,m,n,o,p⟩:=cO (g b _ f I.out);have u:=aa (K.ex H1 (z.onA g) C (c:=1) (by omega) (by have:=G.out;simp only[ac]at this ⊢;omega));clear K g;go_wp2_with fail;refine u.mono ?_;rintro e u3 ⟨rfl,L⟩;have F:=L.tree H.out;clear u i j k m n o p;obtain⟨i,j,k,m,n,o,p⟩:=cO (F b _ f I.out);have v:=aa (L.put1 (c:=1) [93] (by have:=G.out;simp only[ac]at this ⊢;omega));clear L F;go_wp2_with fail;refine v.mono ?_;rintro e u4 ⟨rfl,P⟩;have S:=aa P;clear P v i j k m n o p;go_wp2_with fail;go_end0;exact⟨rfl,S.out⟩
theorem L0 (H0:PEx l):PEx (.new l):=by
 intro w W t d S b c h J D M C;rw[bK]at J;obtain⟨L,O,N,hn,n⟩:=J;unfold ExP at D;have a:t++[110,101,119,40]++exT l 1++[41]=t++exT (.new l) c:=by
  rw[gi (x:=.new l) (show c<=8 from M)];rw[gi (gU D)];simp[cV,exT,aF]
 rw[<- a]at C ⊢;have F:=aa h;have G:=aa hn;have z:=aa C;have m:b<W:=L;obtain⟨p,q,r,s,u,v,y⟩:=cO hn;have k:=aa n;have H:=cE.start h;clear h a C n;have E:aX (LtP W) w w:=λ_ _ _ h=>h;have g:=aa (H.put1 (c:=1) [110,101,119,40] (by have:=z.out;simp only[ac]at this ⊢;omega));clear H E
 go_enter func174,ntmps174
 go_wp2_with fail;refine g.mono ?_;rintro e P ⟨rfl,A⟩;have f:=A.tree F.out;clear g p q r s u v y;obtain⟨p,q,r,s,u,v,y⟩:=cO (f b _ m G.out);have i:=aa (A.ex H0 (k.onA f) D (c:=1) (by omega) (by have:=z.out;simp only[ac]at this ⊢;omega));clear A f;go_wp2_with fail;refine i.mono ?_;rintro e Q ⟨rfl,B⟩;have o:=B.tree F.out;clear i p q r s u v y;obtain⟨p,q,r,s,u,v,y⟩:=cO (o b _ m G.out);have j:=aa (B.put1 (c:=1) [41] (by have:=z.out;simp only[ac]at this ⊢;omega));clear B o;go_wp2_with fail;refine j.mono ?_;rintro e R ⟨rfl,I⟩;have K:=aa I;clear I j p q r s u v y;go_wp2_with fail;go_end0;exact⟨rfl,K.out⟩
theorem Ma:PEx (.inp):=by
 intro w W t d G b c h l D q g;rw[bK]at l;obtain⟨o,E,hn⟩:=l;have a:t++[105,110,40,41]=t++exT (.inp) c:=by
  rw[gi (x:=.inp) (show c<=8 from q)];simp[cV,exT,aF]
 rw[<- a]at g ⊢;have B:=aa h;have C:=aa hn;have n:=aa g;have p:b<W:=o;obtain⟨r,s,u,v,y,z,A⟩:=cO hn;have j:=cE.start h;clear h a g;have i:aX (LtP W) w w:=λ_ _ _ h=>h;have f:=aa (j.put1 (c:=1) [105,110,40,41] (by have:=n.out;simp only[ac]at this ⊢;omega));clear j i
 go_enter func174,ntmps174
 go_wp2_with fail;refine f.mono ?_;rintro e F ⟨rfl,k⟩;have m:=aa k;clear k f r s u v y z A;go_wp2_with fail;go_end0;exact⟨rfl,m.out⟩
theorem lS {w:World} {A:Nat->Prop}:∀{bs:List Nat} {xs:List Ex},dn w A bs xs->bs.length=xs.length/\∀(j:Nat) (x:Ex),xs[j]?=some x->∃b,bs[j]?=some b/\bK w A b x
 | [],[],_=>⟨rfl,λj x hj=>by simp at hj⟩
 | b::bs,x::xs,h=>by
  rw[dn]at h;obtain⟨a,c⟩:=lS h.2;refine⟨by simp[a],λj y hj=>?_⟩;cases j with
  | zero=>simp at hj;subst hj;exact⟨b,rfl,h.1⟩
  | succ j=>exact c j y (by simpa using hj)
 | [],_::_,h=>by rw[dn]at h<;>first|exact h.elim|(intros;simp_all)
 | _::_,[],h=>by rw[dn]at h<;>first|exact h.elim|(intros;simp_all)
theorem tA:∀{xs:List Ex} {x:Ex},om xs->x∈xs->ExP x
 | [],_,_,h=>by cases h
 | y::ys,x,hp,h=>by
  unfold om at hp;rcases aR.1 h with rfl|h
  ·exact hp.1
  ·exact tA hp.2 h
theorem sk:∀(l:List Ex) (b:Bool) (x:Ex),eN b (l++[x])=eN b l++((if b=true/\l=[]then[]else[44,32])++cV x)
 | [],b,x=>by cases b<;>simp[eN]
 | y::l,b,x=>by
  rw[bB,eN,sk l false x,eN];simp[aF]
theorem si {l:List Ex} (h:l[j]?=some x):eN true (l.take (j+1))=eN true (l.take j)++((if j=0 then[]else[44,32])++cV x):=by
 have a:=(aE.1 h).1;rw[bT,h,cy,sk];congr 2
 by_cases hj:j=0
 ·subst hj;simp
 ·have:l.take j≠[]:=by intro e;have:=aB List.length e;rw[bN,aW]at this;omega
  simp[hj,this]
theorem F8 (l:List Ex) (j:Nat) (t:Tx):(t++eN true (l.take j)).length<=(t++eN true l).length:=by
 have a:∀(l:List Ex) (j:Nat) (b:Bool),(eN b (l.take j)).length<=(eN b l).length:=λl=>by
  induction l with
  | nil=>intro j b;simp
  | cons x l ih =>
   intro j b;cases j with
   | zero=>rw[bO,eN];simp
   | succ j =>
    rw[gW,eN,eN];have:=ih j false;simp only[ac];omega
 have:=a l j true;simp only[ac];omega
theorem eV {e c:Nat} {xs:List Value} {xa:Option Addr} (h:w.ownsRow base e 1 (.slice xa n c) n xs) (hj:j<n):∃g,xa=some ⟨g,0,none⟩/\w.cell? ⟨g,j,none⟩=xs[j]?:=by
 rcases h.2 with⟨_,f⟩|⟨g,a,b,d,_⟩
 ·omega
 ·injection d with h1 h2 h3
  subst h1 h3;exact⟨g,rfl,h.cellAt j (by omega)⟩
theorem eR {e:TypeId} {size:Nat} {xs:List Value} (h:w.ownsRow base e size v n xs) {a:Option Addr} {m c:Nat} (hv:v=.slice a m c):m=n:=by
 rcases h.2 with⟨rfl,rfl⟩|⟨g,b,d,rfl,_⟩
 ·injection hv with _ h2 _;exact h2.symm
 ·injection hv with _ h2 _;exact h2.symm
theorem Ky {s:Tx} {args:List Ex} (hx:∀x∈args,PEx x):PEx (.call s args):=by
 intro w W t d A b c h ho hp hc O;rw[bK]at ho;obtain⟨hA,ln,v,l,hn,Z,ha⟩:=ho;unfold ExP at hp;obtain⟨a3,a4,P⟩:=hp;have o:t++(s++[40])++eN true args++[41]=t++exT (.call s args) c:=by
  rw[gi (x:=.call s args) (show c<=8 from hc)];simp[cV,aF]
 rw[<- o]at O ⊢;have a0:b<W:=hA;obtain⟨i,U⟩:∃i,t++(s++[40])=i:=⟨_,rfl⟩;have q:=aa ((cE.start h).put2 (c:=2) s [40] (by simp only[ac]at O ⊢;omega));rw[U]at O q ⊢;obtain⟨K,N⟩:=lS ha;obtain⟨va,vn,vc,rfl⟩:=cc Z.1;have a5:vn=l.length:=eR Z.1 rfl;subst a5;have a7:l.length<=1000000:=by omega
 have Y:=aa h;have HN:=aa hn;have HL:=aa O;have HA:=aa ha;have HV:=aa Z;have C:=aa K;have HP:=aa P;have HX:=aa hx;obtain⟨k0,k1,k2,k3,k4,k5,k6⟩:=cO hn;clear h hn O ha Z K P hx N o U a3 a4
 go_enter func174,ntmps174
 go_wp2_with fail;refine q.mono ?_;rintro e u1 ⟨rfl,J⟩;have S:=J.tree Y.out;clear k0 k1 k2 k3 k4 k5 k6 q;obtain⟨k0,k1,k2,k3,k4,k5,k6⟩:=cO (S b _ a0 HN.out);have G:=aa (show cE W (i++eN true (args.take 0)) d A w u1 by rw[bO,eN,bo];exact J);clear J S;go_wp2_with fail
 go_loopw [6,7,54] (λ_ _ s54 wr=>∃j:Nat,s54=.int .i64 j/\j<=l.length/\Hid (cE W (i++eN true (args.take j)) d A w wr)) (λ_ _ s54 _=>match s54 with | .int _ j=>l.length-j.toNat|_=>0)
 case atStart=>exact⟨0,rfl,aV _,G⟩
 case round =>
  clear G k0 k1 k2 k3 k4 k5 k6
  rename World=>w5
  obtain⟨j,rfl,hj,R⟩:=hrel
  by_cases hlt:j<l.length
  ·obtain⟨x,hx⟩:∃x,args[j]?=some x:=⟨_,aw (by have:=C.out;omega)⟩
   have M:decide ((j:Int)<(l.length:Int))=true:=by simp;omega
   have p:l.length-((j:Int)+1).toNat<l.length-(j:Int).toNat:=gd hlt;have T:=R.out.tree Y.out;obtain⟨xb,X,V⟩:=(lS HA.out).2 j x hx;obtain⟨g,rfl,L⟩:=eV (HV.on T).1 hlt;have a1:w5.cell? ⟨g,j,none⟩=some (pB xb):=by rw[L,aG,X];rfl
   have H:=aa V;have a6:=aa hx;have y:=tA HP.out (aJ hx);have e1:exT x 1=cV x:=gi (gU y);have a:(i++eN true (args.take j)++((if j=0 then[]else[44,32])++exT x 1)).length<=100000000000:=by
    rw[e1,aF,<- si hx];have h1:=F8 args (j+1) i;have J:=HL.out;simp only[ac]at h1 J ⊢;omega
   have f:i++eN true (args.take (j+1))=i++eN true (args.take j)++((if j=0 then[]else[44,32])++exT x 1):=by rw[si hx,e1,aF]
   have E:=aa y;obtain⟨t5,z⟩:∃t5,i++eN true (args.take j)=t5:=⟨_,rfl⟩;rw[z]at a f;have F:=aa (show cE W t5 d A w w5 by rw[<- z];exact R.out);have I:=aa (HX.out x (aJ hx));clear R hx T V L X y e1 z
   by_cases hj0:j=0
   ·subst hj0
    have r:=aa f;have Q:decide ((0:Int)<((0:Nat):Int))=false:=by simp
    have n:=aa (F.ex I.out (H.onA (F.tree Y.out)) E.out (c:=1) (by omega) (by simpa using a));clear f a;go_wp2_with fail;refine n.mono ?_;rintro e u ⟨rfl,m⟩;have k:=aa (show cE W (i++eN true (args.take (0+1))) d A w u by rw[r.out];simpa using m);clear m n;go_wp2_with fail;exact⟨⟨0+1,by simp,hlt,k⟩,p⟩
   ·rw[ap hj0]at f a
    have r:=aa f;have Q:decide ((0:Int)<(j:Int))=true:=by simp;omega
    have B:=aa a;have n:=aa (F.put1 (c:=1) [44,32] (by have:=B.out;simp only[ac]at this ⊢;omega));clear f a;go_wp2_with fail;refine n.mono ?_;rintro e u ⟨rfl,m⟩;have D:=aa (m.ex I.out (H.onA (m.tree Y.out)) E.out (c:=1) (by omega) (by have:=B.out;simp only[ac]at this ⊢;omega));clear m n;go_wp2_with fail;refine D.mono ?_;rintro e u2 ⟨rfl,h7⟩;have k:=aa (show cE W (i++eN true (args.take (j+1))) d A w u2 by rw[r.out,<- aF];exact h7);clear h7 D;go_wp2_with fail;exact⟨⟨j+1,by simp,hlt,k⟩,p⟩
  ·have a2:j=l.length:=by omega
   have M:decide ((j:Int)<(l.length:Int))=false:=by simp;omega
   have F:=aa (show cE W (i++eN true args) d A w w5 by have:=R.out;rw[cH (by have:=C.out;omega)]at this;exact this);have n:=aa (F.put1 (c:=1) [41] HL.out);clear R a2;go_wp2_with fail;refine n.mono ?_;rintro e u ⟨rfl,m⟩;have HF:=aa m;clear m n;go_wp2_with fail;go_end0;exact⟨rfl,HF.out⟩
theorem vO {A:Nat->Prop} (h:bK w A b r):∃k,w.cell? ⟨b,0,none⟩=some (.int .i64 k)/\(k==(1:Int)||k==(2:Int))=gh r:=by
 cases r<;>(rw[bK]at h)
 ·obtain⟨_,a,hn⟩:=h;exact⟨_,(cO hn).1,rfl⟩
 ·obtain⟨_,a,hn⟩:=h;exact⟨_,(cO hn).1,rfl⟩
 ·obtain⟨_,a,d,hn,_⟩:=h;exact⟨_,(cO hn).1,rfl⟩
 ·obtain⟨_,a,c,d,hn,_⟩:=h;exact⟨_,(cO hn).1,rfl⟩
 ·obtain⟨_,a,v,e,hn,_⟩:=h;exact⟨_,(cO hn).1,rfl⟩
 ·obtain⟨_,a,c,d,hn,_⟩:=h;exact⟨_,(cO hn).1,rfl⟩
 ·obtain⟨_,a,c,d,hn,_⟩:=h;exact⟨_,(cO hn).1,rfl⟩
 ·obtain⟨_,a,c,hn,_⟩:=h;exact⟨_,(cO hn).1,rfl⟩
 ·obtain⟨_,a,hn⟩:=h;exact⟨_,(cO hn).1,rfl⟩
theorem Lj (ha:gh r=true):exT r 8=cV r:=by
 refine gi ?_;cases r<;>first|exact Int.le_refl 8|cases ha
theorem II (H0:PEx l) (H1:PEx r) (ha:gh r=true):PEx (.link l r):=by
 intro w W t d wb b c h M N R G;rw[bK]at M;obtain⟨Q,U,T,V,hn,p,q⟩:=M;unfold ExP at N;obtain⟨H,I⟩:=N;have n:b<W:=Q;have f:t++exT l 8++[58]++exT r 8=t++exT (.link l r) c:=by
  rw[gi (x:=.link l r) (show c<=8 from R),Lj ha];simp[cV,exT,ha,aF]
 rw[<- f]at G ⊢;have J:=aa h;have K:=aa hn;have m:=aa q;have D:=aa G;obtain⟨u,v,y,z,A,B,C⟩:=cO hn;have i:=aa ((cE.start h).ex H0 p H (c:=8) (by omega) (by have:=D.out;simp only[ac]at this ⊢;omega));clear h hn G p q f
 go_enter func174,ntmps174
 go_wp2_with fail;refine i.mono ?_;rintro e X ⟨rfl,E⟩;have s:=E.tree J.out;clear i u v y z A B C;obtain⟨u,v,y,z,A,B,C⟩:=cO (s b _ n K.out);have j:=aa (E.put1 (c:=1) [58] (by have:=D.out;simp only[ac]at this ⊢;omega));clear E s;go_wp2_with fail;refine j.mono ?_;rintro e Y ⟨rfl,F⟩;have a:=F.tree J.out;clear j u v y z A B C;obtain⟨u,v,y,z,A,B,C⟩:=cO (a b _ n K.out);obtain⟨O,S,g⟩:=vO (m.onA a);rw[ha]at g;have k:=aa (F.ex H1 (m.onA a) I (c:=8) (by omega) D.out);have o:O=1\/O=2:=by simpa using g
 clear F a g;rcases o with rfl|rfl
 all_goals
  go_wp2_with fail;refine k.mono ?_;rintro e Z ⟨rfl,L⟩;have P:=aa L;clear L k;go_wp2_with fail;refine aN (cp rfl _ _ _) rfl ?_;exact⟨rfl,P.out⟩
theorem IG (H0:PEx l) (H1:PEx r) (ha:gh r=false):PEx (.link l r):=by
 intro w W t d wb b c h R S X N;rw[bK]at R;obtain⟨V,ln,Z,rb,hn,E,F⟩:=R;unfold ExP at S;obtain⟨O,G⟩:=S;have f:b<W:=V;have a:t++exT l 8++[58]++[40]++exT r 1++[41]=t++exT (.link l r) c:=by
  rw[gi (x:=.link l r) (show c<=8 from X),gi (gU G)];simp[cV,exT,ha,aF]
 rw[<- a]at N ⊢;have I:=aa h;have J:=aa hn;have C:=aa F;have B:=aa N;obtain⟨k,m,n,o,p,q,s⟩:=cO hn;have u:=aa ((cE.start h).ex H0 E O (c:=8) (by omega) (by have:=B.out;simp only[ac]at this ⊢;omega));clear h hn N E F a
 go_enter func174,ntmps174
 go_wp2_with fail;refine u.mono ?_;rintro e u1 ⟨rfl,D⟩;have H:=D.tree I.out;clear u k m n o p q s;obtain⟨k,m,n,o,p,q,s⟩:=cO (H b _ f J.out);have v:=aa (D.put1 (c:=1) [58] (by have:=B.out;simp only[ac]at this ⊢;omega));clear D H;go_wp2_with fail;refine v.mono ?_;rintro e u2 ⟨rfl,K⟩;have i:=K.tree I.out;clear v k m n o p q s;obtain⟨k,m,n,o,p,q,s⟩:=cO (i b _ f J.out);obtain⟨Y,M,g⟩:=vO (C.onA i);rw[ha]at g;have y:=aa (K.put1 (c:=1) [40] (by have:=B.out;simp only[ac]at this ⊢;omega));obtain⟨U,D⟩:=(Bool.or_eq_false_iff).mp g;clear K i g;go_wp2_with fail;refine y.mono ?_;rintro e u3 ⟨rfl,L⟩;have j:=L.tree I.out;clear y k m n o p q s M U D;obtain⟨k,m,n,o,p,q,s⟩:=cO (j b _ f J.out);have z:=aa (L.ex H1 (C.onA j) G (c:=1) (by omega) (by have:=B.out;simp only[ac]at this ⊢;omega));clear L j;go_wp2_with fail;refine z.mono ?_;rintro e u4 ⟨rfl,P⟩;have A:=aa (P.put1 (c:=1) [41] B.out);clear P z k m n o p q s;go_wp2_with fail;refine A.mono ?_;rintro e u5 ⟨rfl,Q⟩;have T:=aa Q;clear Q A;go_wp2_with fail;go_end0;exact⟨rfl,T.out⟩
theorem Kw (H0:PEx l) (H1:PEx r):PEx (.link l r):=by
 cases ha:gh r with
 | true=>exact II H0 H1 ha
 | false=>exact IG H0 H1 ha
theorem cE.comp {v:World} (hc:Chg (WW W wb) w u) (hu:wb1=wb\/∀q,wb1=some q->w.heap.size<=q) (h:cE W t' d' wb1 u v):cE W t' d' wb w v:=by
 obtain⟨b,c,d,a⟩:=h;refine⟨WW.then hc b hu,c,d,?_⟩;rcases a with rfl|a
 ·exact hu
 ·exact .inr λq hq=>ay hc.size (a q hq)
theorem cE.into {v:World} (h:cE W t d wb w u) (h1:WR u W t d wb1) (h2:cE W t' d' wb1 u v):cE W t' d' wb w v:=by
 obtain⟨j,f,g,k⟩:=h;have e:f=wb1:=by
  obtain⟨p,x,hn,_,_,i,_⟩:=g.ex;obtain⟨m,l,b,_,_,c,_⟩:=h1.ex;rw[hn]at b;injection b with b;injection b with e1 _ _;have:x=l:=by
   have:=aB (λa:Array Value=>a[1]?) e1
   simpa using this
  rw[<- i,<- c,this]
 subst e;exact cE.comp j k h2
def POp (x:Ex):Prop:=∀(w:World) (W:Nat) (t:Tx) (d:Nat) (wb:Option Nat) (b:Nat) (c:Int),WR w W t d wb->bK w (LtP W) b x->ExP x->c<=8->(t++exT x c).length<=100000000000 ->
 Calls prog 218 #[pB W,pB b,.int .i64 c] w λe w'=>e=.returned (.tuple #[])/\cE W (t++exT x c) d wb w w'
theorem JV (H0:PEx r):POp (.un tt r):=by
 intro w W t d wb b c h ho hp hc I;rw[bK]at ho;obtain⟨hA,ln,rb,hn,s⟩:=ho;unfold ExP at hp;obtain⟨_,N⟩:=hp;have p:b<W:=hA;have S:=aa h;have T:=aa hn;have Z:=aa s;obtain⟨z,A,B,C,D,E,F⟩:=cO hn
 by_cases hcl:7<c
 ·have a:t++[40]++tt++exT r 7++[41]=t++exT (.un tt r) c:=by
   rw[GW (x:=.un tt r) (show(7:Int)<c from hcl)];simp[cV,exT,aF]
  rw[<- a]at I ⊢;have m:=aa I;have U:decide ((7:Int)<c)=true:=by simp;omega
  have i:=aa ((cE.start h).put1 (c:=1) [40] (by have:=m.out;simp only[ac]at this ⊢;omega));clear h hn s I a
  go_enter_defers func218,ntmps218
  go_wp2_with fail;refine i.mono ?_;rintro e J ⟨rfl,o⟩;obtain⟨G,k⟩:∃G,WR J W (t++[40]) d G:=⟨_,o.2.choose_spec.1⟩;have P:=aa (o.below ((ai _ _).alloc (ag _) (.cells #[.string ⟨#[41]⟩] 9)));have n:=aa (k.below ((ai _ _).alloc (ag _) (.cells #[.string ⟨#[41]⟩] 9)));have Y:=aa (LI J [41]);have g:=P.tree S.out;have M:=k.ge;have a0:=k.lt;have R:Hid (¬WW W G J.heap.size):=λe=>e.elim (λe=>by omega) λe=>by have:=M _ e;omega
  clear i o k M z A B C D E F;obtain⟨z,A,B,C,D,E,F⟩:=cO (g b _ p T.out);have q:=(cE.start n.out).put1 (c:=1) tt (by have:=m.out;simp only[ac]at this ⊢;omega);rw[ah]at q;have j:=aa q;clear g q;go_wp2_with fail;refine j.mono ?_;rintro e u2 ⟨rfl,H⟩;have u:=(P.into n.out H).tree S.out;clear j z A B C D E F;obtain⟨z,A,B,C,D,E,F⟩:=cO (u b _ p T.out);have K:=aa (H.ex H0 (Z.onA u) N (c:=7) (by omega) (by have:=m.out;simp only[ac]at this ⊢;omega));clear H u;go_wp2_with fail;refine K.mono ?_;rintro e X ⟨rfl,O⟩;have L:=aa ((Y.chg O.1 R.out) 0 [41] rfl);obtain⟨l,y⟩:∃l,WR X W (t++[40]++tt++exT r 7) d l:=⟨_,O.2.choose_spec.1⟩;have HD:=aa (Bc X W _ d l J.heap.size 1 [41] .returning y L.out m.out);have Q:Hid (∀v,cE W (t++[40]++tt++exT r 7++[41]) d l X v->cE W (t++[40]++tt++exT r 7++[41]) d wb w v):=λv V=>P.into n.out (O.into y V);clear K O y L Y z A B C D E F;go_wp2_with fail;refine leaves_cons (f:=65) (args:=#[pB W,.slice (some ⟨J.heap.size,0,none⟩) 1 1]) (by simp) (by simp[go_sem]) ?_;refine HD.mono ?_;rintro e fm v ⟨rfl,rfl,V⟩;exact⟨_,cp rfl _ _ _,rfl,Q.out v V⟩
 ·have a:t++tt++exT r 7=t++exT (.un tt r) c:=by
   rw[gi (x:=.un tt r) (show c<=(7:Int) by omega)];simp[cV,exT,aF]
  rw[<- a]at I ⊢;have m:=aa I;have U:decide ((7:Int)<c)=false:=by simp;omega
  have i:=aa ((cE.start h).put1 (c:=1) tt (by have:=m.out;simp only[ac]at this ⊢;omega));clear h hn s I a
  go_enter_defers func218,ntmps218
  go_wp2_with fail;refine i.mono ?_;rintro e J ⟨rfl,o⟩;have g:=o.tree S.out;clear i z A B C D E F;obtain⟨z,A,B,C,D,E,F⟩:=cO (g b _ p T.out);have j:=aa (o.ex H0 (Z.onA g) N (c:=7) (by omega) m.out);clear o g;go_wp2_with fail;refine j.mono ?_;rintro e u2 ⟨rfl,H⟩;have Q:=aa H;clear H j;go_wp2_with fail;exact⟨_,cp rfl _ _ _,rfl,Q.out⟩
theorem Hl (H0:PEx l) (H1:PEx r):POp (.bin tt l r):=by
 intro w W t d wb b c h ho hp hc R;rw[bK]at ho;obtain⟨hA,ln,lb,rb,hn,M,N⟩:=ho;unfold ExP at hp;obtain⟨a3,a0,a1⟩:=hp;have j:b<W:=hA;have D:=aa h;have Q:=aa hn;have HO:=aa M;have X:=aa N;obtain⟨k,m,o,p,q,s,u⟩:=cO hn;have T:=aa (vK w tt (by have:=vL a3;omega));have a4:=kT tt;obtain⟨n,B⟩:∃n,binds tt=n:=⟨_,rfl⟩;rw[B]at T a4
 by_cases hcl:n<c
 ·have a:t++[40]++exT l n++([32]++(tt++[32]))++exT r (n+1)++[41]=t++exT (.bin tt l r) c:=by
   rw[GW (x:=.bin tt l r) (show binds tt<c by omega)];simp[cV,exT,B,aF]
  rw[<- a]at R ⊢;have E:=aa R;have a5:decide (n<c)=true:=by simp;omega
  clear h hn M N R a B
  go_enter_defers func218,ntmps218
  go_wp2_with fail;refine T.mono ?_;rintro e u0 ⟨rfl,Y⟩;have h0:=(cE.start D.out).below Y;have a6:=h0.tree D.out;have U:=aa (h0.put1 (c:=1) [40] (by have:=E.out;simp only[ac]at this ⊢;omega));clear k m o p q s u T Y h0 a6;go_wp2_with fail;refine U.mono ?_;rintro e S ⟨rfl,I⟩;obtain⟨P,G⟩:∃P,WR S W (t++[40]) d P:=⟨_,I.2.choose_spec.1⟩;have HA:=aa (I.below ((ai _ _).alloc (ag _) (.cells #[.string ⟨#[41]⟩] 9)));have F:=aa (G.below ((ai _ _).alloc (ag _) (.cells #[.string ⟨#[41]⟩] 9)));have HG:=aa (LI S [41]);have g:=HA.tree D.out;have Z:=G.ge;have a7:=G.lt;have a2:Hid (¬WW W P S.heap.size):=λe=>e.elim (λe=>by omega) λe=>by have:=Z _ e;omega
  clear U I G Z;obtain⟨k,m,o,p,q,s,u⟩:=cO (g b _ j Q.out);have y:=aa ((cE.start F.out).ex H0 (HO.onA g) a0 (c:=n) (by omega) (by have:=E.out;simp only[ac]at this ⊢;omega));clear g;go_wp2_with fail;refine y.mono ?_;rintro e u2 ⟨rfl,J⟩;have C:=(HA.into F.out J).tree D.out;clear y k m o p q s u;obtain⟨k,m,o,p,q,s,u⟩:=cO (C b _ j Q.out);have z:=aa (J.put3 (c:=3) [32] tt [32] (by have:=E.out;simp only[ac]at this ⊢;omega));clear J C;go_wp2_with fail;refine z.mono ?_;rintro e u3 ⟨rfl,K⟩;have i:=(HA.into F.out K).tree D.out;clear z k m o p q s u;obtain⟨k,m,o,p,q,s,u⟩:=cO (i b _ j Q.out);have A:=aa (K.ex H1 (X.onA i) a1 (c:=n+1) (by omega) (by have:=E.out;simp only[ac]at this ⊢;omega));clear K i;go_wp2_with fail;refine A.mono ?_;rintro e u4 ⟨rfl,L⟩;have V:=aa ((HG.chg L.1 a2.out) 0 [41] rfl);obtain⟨H,O⟩:∃H,WR u4 W (t++[40]++exT l n++([32]++(tt++[32]))++exT r (n+1)) d H:=⟨_,L.2.choose_spec.1⟩;have HD:=aa (Bc u4 W _ d H S.heap.size 1 [41] .returning O V.out E.out);have HF:Hid (∀v,cE W (t++[40]++exT l n++([32]++(tt++[32]))++exT r (n+1)++[41]) d H u4 v->cE W (t++[40]++exT l n++([32]++(tt++[32]))++exT r (n+1)++[41]) d wb w v):=λv hv=>HA.into F.out (L.into O hv);clear A L O V HG k m o p q s u;go_wp2_with fail;refine leaves_cons (f:=65) (args:=#[pB W,.slice (some ⟨S.heap.size,0,none⟩) 1 1]) (by simp) (by simp[go_sem]) ?_;refine HD.mono ?_;rintro e fm v ⟨rfl,rfl,hv⟩;exact⟨_,cp rfl _ _ _,rfl,HF.out v hv⟩
 ·have a:t++exT l n++([32]++(tt++[32]))++exT r (n+1)=t++exT (.bin tt l r) c:=by
   rw[gi (x:=.bin tt l r) (show c<=binds tt by omega)];simp[cV,exT,B,aF]
  rw[<- a]at R ⊢;have E:=aa R;have a5:decide (n<c)=false:=by simp;omega
  clear h hn M N R a B
  go_enter_defers func218,ntmps218
  go_wp2_with fail;refine T.mono ?_;rintro e S ⟨rfl,Y⟩;have I:=(cE.start D.out).below Y;have g:=I.tree D.out;clear k m o p q s u T Y;obtain⟨k,m,o,p,q,s,u⟩:=cO (g b _ j Q.out);have y:=aa (I.ex H0 (HO.onA g) a0 (c:=n) (by omega) (by have:=E.out;simp only[ac]at this ⊢;omega));clear g I;go_wp2_with fail;refine y.mono ?_;rintro e u2 ⟨rfl,J⟩;have C:=J.tree D.out;clear y k m o p q s u;obtain⟨k,m,o,p,q,s,u⟩:=cO (C b _ j Q.out);have z:=aa (J.put3 (c:=3) [32] tt [32] (by have:=E.out;simp only[ac]at this ⊢;omega));clear J C;go_wp2_with fail;refine z.mono ?_;rintro e u3 ⟨rfl,K⟩;have i:=K.tree D.out;clear z k m o p q s u;obtain⟨k,m,o,p,q,s,u⟩:=cO (i b _ j Q.out);have A:=aa (K.ex H1 (X.onA i) a1 (c:=n+1) (by omega) E.out);clear K i;go_wp2_with fail;refine A.mono ?_;rintro e u4 ⟨rfl,L⟩;have HF:=aa L;clear L A;go_wp2_with fail;exact⟨_,cp rfl _ _ _,rfl,HF.out⟩
theorem MF (hx:POp x) (hk:∀w A b,bK w A b x->A b/\∃n nm t l r a ln,w.heap[b]?=some (exC 3 n nm t l r a ln)):PEx x:=by
 intro w W t d p b c h f k o j;obtain⟨q,n,nm,E,l,r,a,ln,hn⟩:=hk w _ b f;obtain⟨s,v,y,z,B,C,D⟩:=cO hn;have g:=aa (hx w W t d p b c h f k o j);clear h f k j hx hk hn
 go_enter func174,ntmps174
 go_wp2_with fail;refine g.mono ?_;rintro e u ⟨rfl,i⟩;have m:=aa i;clear i g;go_wp2_with fail;go_end0;exact⟨rfl,m.out⟩
mutual
theorem gw:∀x:Ex,PEx x
 | .num n=>LW n
 | .name s=>Kv s
 | .un t r=>MF (JV (gw r)) λw A b h=>by rw[bK]at h;obtain⟨a,c,d,hn,_⟩:=h;exact⟨a,_,_,_,_,_,_,_,hn⟩
 | .bin t l r=>MF (Hl (gw l) (gw r)) λw A b h=>by rw[bK]at h;obtain⟨a,c,e,d,hn,_⟩:=h;exact⟨a,_,_,_,_,_,_,_,hn⟩
 | .call s args=>Ky (yL args)
 | .cell l r=>Kx (gw l) (gw r)
 | .link l r=>Kw (gw l) (gw r)
 | .new l=>L0 (gw l)
 | .inp=>Ma
theorem yL:∀l:List Ex,∀x∈l,PEx x
 | [],x,h=>by cases h
 | y::l,x,h=>by
  rcases aR.1 h with e|h
  ·rw[e];exact gw y
  ·exact yL l x h
end
end Go.Proofs.YtbeaaimcpkogcaaGreatDoor
