/- Lemmas on the way to the claim. -/
import Derived.Test.YtbeaaimcpkogcaaGreatDoorM25
set_option linter.unusedSimpArgs false
set_option linter.unusedVariables false
set_option maxHeartbeats 8000000
set_option maxRecDepth 100000
namespace Go.Proofs.YtbeaaimcpkogcaaGreatDoor
open Go.Proofs.Tryz Go.RowKit
variable {u w w' w0:World} {cv sv v:Value} {img:Array Value} {B G base lo n pages size stack:Nat} {S:Nat->Prop} {xs:List Value} {ops:Array Oper} {o:Oper} {a:Act} {Q:Exit->Act->World->Prop} {bs:Tx}
theorem EH (w:World) (I n c1:Nat) (a1:Option Addr) (h:w.cell? ⟨I,3,none⟩=some (.slice a1 n c1)) (hn:1<=n) (hn2:n<=1000000):
  Calls prog 134 #[.int .u32 0,pB I] w λx w'=>x=.returned (.bool false)/\w=w':=by
 have hd:decide ((n:Int)<=0)=false:=by simp;omega
 go_enter func134,ntmps134
 go_wp2_with fail;go_ret;exact⟨by show Ending.returned (.bool (decide (n=0)))=_;rw[iV (by omega)],rfl⟩
theorem zW (w:World) (I n c1 G c2:Nat) (a1:Option Addr) (h:w.cell? ⟨I,3,none⟩=some (.slice a1 n c1)) (hn:1<=n) (hn2:n<=1000000) (hG:w.cell? ⟨G,0,none⟩=some (.int .u32 0)):
  Calls prog 133 #[.slice (some ⟨G,0,none⟩) 1 c2,.func (.func 134) #[] #[pB I]] w λx w'=>x=.returned (.bool false)/\w=w':=by
 have a:=aa (EH w I n c1 a1 h hn hn2);clear h;have b:Calls prog 188 #[.slice (some ⟨G,0,none⟩) 1 c2,.func (.func 134) #[] #[pB I]] w λx w'=>x=.returned (.int .i64 (-1))/\w=w':=by
  go_enter func188,ntmps188
  go_wp2_with fail;refine bC 2 ?_;rw[aO];go_wp2_with fail;refine a.mono ?_;rintro e u ⟨rfl,rfl⟩;go_wp2_with fail;rw[aO];go_wp2_with fail;go_ret;exact⟨rfl,rfl⟩
 go_enter func133,ntmps133
 go_wp2_with fail;refine b.mono ?_;rintro e u ⟨rfl,rfl⟩;go_wp2_with fail;go_ret;exact⟨rfl,rfl⟩
structure LZ (w0 u:World) (img:Array Value):Prop where
 bel:Below w0.heap.size w0 u
 img:u.heap[w0.heap.size]?=some (.cells img 37 (0,0))
 res:u.heap[w0.heap.size+1]?=some (.cells z8 169 (0,0))
theorem LZ.on {v:World} (h:LZ w0 u img) (hb:Below u.heap.size u v):LZ w0 v img:=
 ⟨h.bel.trans (hb.mono h.bel.size),by rw[hb.block _ (ab h.img)];exact h.img,by rw[hb.block _ (ab h.res)];exact h.res⟩
theorem LZ.start (w:World) (img:Array Value):LZ w ((w.alloc (.cells img 37)).alloc (.cells z8 169)) img:=
 ⟨(az).alloc (by simp) _,pZ rfl,dw (by simp)⟩
theorem LZ.lay8 (h:LZ w0 u img) (c0 c1 c2 c3 c4 c5 c6 c7:Value):
  ((((((((u.setCell ⟨w0.heap.size+1,0,none⟩ c0).setCell ⟨w0.heap.size+1,1,none⟩ c1).setCell ⟨w0.heap.size+1,2,none⟩ c2).setCell ⟨w0.heap.size+1,3,none⟩ c3).setCell ⟨w0.heap.size+1,4,none⟩ c4).setCell ⟨w0.heap.size+1,5,none⟩ c5).setCell ⟨w0.heap.size+1,6,none⟩ c6).setCell ⟨w0.heap.size+1,7,none⟩ c7).heap[w0.heap.size+1]?=some (.cells #[c0,c1,c2,c3,c4,c5,c6,c7] 169 (0,0))/\Below w0.heap.size w0 ((((((((u.setCell ⟨w0.heap.size+1,0,none⟩ c0).setCell ⟨w0.heap.size+1,1,none⟩ c1).setCell ⟨w0.heap.size+1,2,none⟩ c2).setCell ⟨w0.heap.size+1,3,none⟩ c3).setCell ⟨w0.heap.size+1,4,none⟩ c4).setCell ⟨w0.heap.size+1,5,none⟩ c5).setCell ⟨w0.heap.size+1,6,none⟩ c6).setCell ⟨w0.heap.size+1,7,none⟩ c7):=by
 have a:=h.bel;have k:(u.setCell ⟨w0.heap.size+1,0,none⟩ c0).heap[w0.heap.size+1]?=some (.cells #[c0,.int .u32 0,.int .u32 0,.int .u32 0,.int .u32 0,.int .u32 0,.int .u32 0,.int .u32 0] 169 (0,0)):=aA (j:=0) h.res c0;have b:=a.setCell (p:=⟨w0.heap.size+1,0,none⟩) (by show w0.heap.size<=w0.heap.size+1;omega) c0;have l:((u.setCell ⟨w0.heap.size+1,0,none⟩ c0).setCell ⟨w0.heap.size+1,1,none⟩ c1).heap[w0.heap.size+1]?=some (.cells #[c0,c1,.int .u32 0,.int .u32 0,.int .u32 0,.int .u32 0,.int .u32 0,.int .u32 0] 169 (0,0)):=aA (j:=1) k c1;have c:=b.setCell (p:=⟨w0.heap.size+1,1,none⟩) (by show w0.heap.size<=w0.heap.size+1;omega) c1;have m:(((u.setCell ⟨w0.heap.size+1,0,none⟩ c0).setCell ⟨w0.heap.size+1,1,none⟩ c1).setCell ⟨w0.heap.size+1,2,none⟩ c2).heap[w0.heap.size+1]?=some (.cells #[c0,c1,c2,.int .u32 0,.int .u32 0,.int .u32 0,.int .u32 0,.int .u32 0] 169 (0,0)):=aA (j:=2) l c2;have d:=c.setCell (p:=⟨w0.heap.size+1,2,none⟩) (by show w0.heap.size<=w0.heap.size+1;omega) c2;have n:((((u.setCell ⟨w0.heap.size+1,0,none⟩ c0).setCell ⟨w0.heap.size+1,1,none⟩ c1).setCell ⟨w0.heap.size+1,2,none⟩ c2).setCell ⟨w0.heap.size+1,3,none⟩ c3).heap[w0.heap.size+1]?=some (.cells #[c0,c1,c2,c3,.int .u32 0,.int .u32 0,.int .u32 0,.int .u32 0] 169 (0,0)):=aA (j:=3) m c3;have e:=d.setCell (p:=⟨w0.heap.size+1,3,none⟩) (by show w0.heap.size<=w0.heap.size+1;omega) c3;have o:(((((u.setCell ⟨w0.heap.size+1,0,none⟩ c0).setCell ⟨w0.heap.size+1,1,none⟩ c1).setCell ⟨w0.heap.size+1,2,none⟩ c2).setCell ⟨w0.heap.size+1,3,none⟩ c3).setCell ⟨w0.heap.size+1,4,none⟩ c4).heap[w0.heap.size+1]?=some (.cells #[c0,c1,c2,c3,c4,.int .u32 0,.int .u32 0,.int .u32 0] 169 (0,0)):=aA (j:=4) n c4;have f:=e.setCell (p:=⟨w0.heap.size+1,4,none⟩) (by show w0.heap.size<=w0.heap.size+1;omega) c4;have q:((((((u.setCell ⟨w0.heap.size+1,0,none⟩ c0).setCell ⟨w0.heap.size+1,1,none⟩ c1).setCell ⟨w0.heap.size+1,2,none⟩ c2).setCell ⟨w0.heap.size+1,3,none⟩ c3).setCell ⟨w0.heap.size+1,4,none⟩ c4).setCell ⟨w0.heap.size+1,5,none⟩ c5).heap[w0.heap.size+1]?=some (.cells #[c0,c1,c2,c3,c4,c5,.int .u32 0,.int .u32 0] 169 (0,0)):=aA (j:=5) o c5;have g:=f.setCell (p:=⟨w0.heap.size+1,5,none⟩) (by show w0.heap.size<=w0.heap.size+1;omega) c5;have r:(((((((u.setCell ⟨w0.heap.size+1,0,none⟩ c0).setCell ⟨w0.heap.size+1,1,none⟩ c1).setCell ⟨w0.heap.size+1,2,none⟩ c2).setCell ⟨w0.heap.size+1,3,none⟩ c3).setCell ⟨w0.heap.size+1,4,none⟩ c4).setCell ⟨w0.heap.size+1,5,none⟩ c5).setCell ⟨w0.heap.size+1,6,none⟩ c6).heap[w0.heap.size+1]?=some (.cells #[c0,c1,c2,c3,c4,c5,c6,.int .u32 0] 169 (0,0)):=aA (j:=6) q c6;have i:=g.setCell (p:=⟨w0.heap.size+1,6,none⟩) (by show w0.heap.size<=w0.heap.size+1;omega) c6;have s:((((((((u.setCell ⟨w0.heap.size+1,0,none⟩ c0).setCell ⟨w0.heap.size+1,1,none⟩ c1).setCell ⟨w0.heap.size+1,2,none⟩ c2).setCell ⟨w0.heap.size+1,3,none⟩ c3).setCell ⟨w0.heap.size+1,4,none⟩ c4).setCell ⟨w0.heap.size+1,5,none⟩ c5).setCell ⟨w0.heap.size+1,6,none⟩ c6).setCell ⟨w0.heap.size+1,7,none⟩ c7).heap[w0.heap.size+1]?=some (.cells #[c0,c1,c2,c3,c4,c5,c6,c7] 169 (0,0)):=aA (j:=7) r c7;have b8:=i.setCell (p:=⟨w0.heap.size+1,7,none⟩) (by show w0.heap.size<=w0.heap.size+1;omega) c7;exact⟨s,b8⟩
theorem LZ.c (h:LZ w0 u (ig pages stack cv sv)):u.cell? ⟨w0.heap.size,0,none⟩=some (.int .i64 pages)/\u.cell? ⟨w0.heap.size,1,none⟩=some (.int .i64 stack)/\u.cell? ⟨w0.heap.size,2,none⟩=some (.int .i64 0)/\u.cell? ⟨w0.heap.size,3,none⟩=some cv/\u.cell? ⟨w0.heap.size,4,none⟩=some (.string ⟨#[]⟩)/\u.cell? ⟨w0.heap.size,5,none⟩=some (.slice none 0 0)/\u.cell? ⟨w0.heap.size,6,none⟩=some sv:=
 ⟨(ae h.img 0).trans rfl,(ae h.img 1).trans rfl,(ae h.img 2).trans rfl,(ae h.img 3).trans rfl,(ae h.img 4).trans rfl,(ae h.img 5).trans rfl,(ae h.img 6).trans rfl⟩
theorem yQ {b:Nat} (n:Nat) (h:w.heap.size=b):zF (w.alloc (.cells (Array.replicate n (.bool false)) 4)) b n:=λj hj =>
 (ae (dw h) j).trans (by rw[Array.getElem?_replicate,ax hj])
theorem I9 (w:World) (pages stack n c1 c2 G:Nat) (a1:Option Addr) (hn1:1<=n) (hn:n<=4096) (hs:stack%256=0) (hs1:256<=stack) (hs2:stack<=4096) (hp1:16<=pages) (hp:pages<=1024) (hG:w.cell? ⟨G,0,none⟩=some (.int .u32 0)):
  Calls prog 82 #[.agg (ig pages stack (.slice a1 n c1) (.slice (some ⟨G,0,none⟩) 1 c2))] w λe w'=>Below w.heap.size w w'/\∃q0 q1 q2 q3 q4 q5 q6 q7:Int,e=.returned (.tuple #[.agg #[.int .u32 q0,.int .u32 q1,.int .u32 q2,.int .u32 q3,.int .u32 q4,.int .u32 q5,.int .u32 q6,.int .u32 q7],.int .i64 (if lh n stack pages=true then 0 else 13)]):=by
 obtain⟨x,M⟩:∃x:Int,(if lh n stack pages=true then 0 else 13)=x:=⟨_,rfl⟩;have B:=aa M;rw[M];clear M;have D:decide ((4096:Int)<(n:Int))=false:=by simp;omega
 have C:=aa (LZ.start w (ig pages stack (.slice a1 n c1) (.slice (some ⟨G,0,none⟩) 1 c2)));have A:=aH hG;have O:=aa hG;clear hG
 go_enter func82,ntmps82
 go_wp2_with fail;have h:((w.alloc (.cells (ig pages stack (.slice a1 n c1) (.slice (some ⟨G,0,none⟩) 1 c2)) 37)).alloc (.cells z8 169)).heap.size=w.heap.size+1+1:=by simp
 generalize(w.alloc (.cells (ig pages stack (.slice a1 n c1) (.slice (some ⟨G,0,none⟩) 1 c2)) 37)).alloc (.cells z8 169)=w1 at C h ⊢;refine(yR _ _ 4 4 (yQ 4 h) (by omega)).mono ?_;rintro e u ⟨rfl,rfl⟩;have c:=aa (C.on ((ai _ _).alloc (ag _) (.cells (Array.replicate 4 (.bool false)) 4)));generalize w1.alloc (.cells (Array.replicate 4 (.bool false)) 4)=w2 at c ⊢;clear C h;obtain⟨q,r,s,m,t,v,y⟩:=c.c;have E:decide ((pages:Int)<16)=false:=by simp;omega
 have F:decide ((1024:Int)<(pages:Int))=false:=by simp;omega
 have H:decide ((stack:Int)<256)=false:=by simp;omega
 have I:decide ((4096:Int)<(stack:Int))=false:=by simp;omega
 have J:(stack:Int)%256=0:=by omega
 have K:((n:Int)==0)=false:=by simp;omega
 go_wp2_with fail;refine(yR _ _ 9 9 (yQ 9 rfl) (by omega)).mono ?_;rintro e u ⟨rfl,rfl⟩;have b:=aa (c.on ((ai _ _).alloc (ag _) (.cells (Array.replicate 9 (.bool false)) 4)));generalize w2.alloc (.cells (Array.replicate 9 (.bool false)) 4)=w3 at b ⊢;clear c q r s m t v y E F H I J K D;obtain⟨q,r,s,m,t,v,y⟩:=b.c;have j:w3.cell? ⟨G,0,none⟩=some (.int .u32 0):=(b.bel.cell A).trans O.out;go_wp2_with fail;refine(zW w3 w.heap.size n c1 G c2 a1 m hn1 (by omega) j).mono ?_;rintro e u ⟨rfl,rfl⟩;go_wp2_with fail;refine(AF w3 pages stack n c1 c2 a1 _ hn hs hs2 hp).mono ?_;rintro e z ⟨k,q0,q1,q2,q3,q4,q5,q6,q7,rfl⟩;have f:=aa (b.on k);clear k q r s m t v y j b;have a:=aa (f.on ((ai _ _).alloc (ag _) (.cells #[.int .u32 q0,.int .u32 q1,.int .u32 q2,.int .u32 q3,.int .u32 q4,.int .u32 q5,.int .u32 q6,.int .u32 q7] 169)));have d:=aa (dw (w:=z) (o:=.cells #[.int .u32 q0,.int .u32 q1,.int .u32 q2,.int .u32 q3,.int .u32 q4,.int .u32 q5,.int .u32 q6,.int .u32 q7] 169) rfl);have L:w.heap.size+1<z.heap.size:=ab f.res
 go_upto_region 8 with fail
 obtain⟨N,l⟩:∃N,z.heap.size=N:=⟨_,rfl⟩;rw[l]at d L ⊢;generalize z.alloc (.cells #[.int .u32 q0,.int .u32 q1,.int .u32 q2,.int .u32 q3,.int .u32 q4,.int .u32 q5,.int .u32 q6,.int .u32 q7] 169)=w5 at a d ⊢;clear f l;obtain⟨q,r,s,m,t,v,y⟩:=a.c;obtain⟨⟨r0,r1,r2,r3,r4,r5,r6,r7⟩,⟨P,Q,R,S,T,U,V,W⟩⟩:=vH a.res;obtain⟨⟨X,Y,Z,k3,k4,k5,k6,k7⟩,_⟩:=vH d.out;obtain⟨ok,g⟩:∃ok,lh n stack pages=ok:=⟨_,rfl⟩;rw[g];rw[g]at B;clear g;cases ok with
 | true =>
  go_wp2_with fail;refine bC 1 ?_;rw[aO];go_wp2_with fail;have i:=aa (a.lay8 (.int .u32 q0) (.int .u32 q1) (.int .u32 q2) (.int .u32 q3) (.int .u32 q4) (.int .u32 q5) (.int .u32 q6) (.int .u32 q7));exact aN (gK (p:=2) (u:=3) rfl _ _ (w.heap.size+1) 169 _ (0,0) _ rfl i.out.1 underlying169 rfl (by kernel_rfl)) rfl ⟨i.out.2,q0,q1,q2,q3,q4,q5,q6,q7,by rw[<- B.out];rfl⟩
 | false =>
  go_wp2_with fail;have i:=aa (a.lay8 (.int .u32 0) (.int .u32 0) (.int .u32 0) (.int .u32 0) (.int .u32 0) (.int .u32 0) (.int .u32 0) (.int .u32 0));exact aN (gK (p:=2) (u:=3) rfl _ _ (w.heap.size+1) 169 _ (0,0) _ rfl i.out.1 underlying169 rfl (by kernel_rfl)) rfl ⟨i.out.2,0,0,0,0,0,0,0,0,by rw[<- B.out];rfl⟩
theorem oQ (w:World) (pages stack n c1 c2 G:Nat) (a1:Option Addr) (hn1:1<=n) (hn:n<=4096) (hs:stack%256=0) (hs1:256<=stack) (hs2:stack<=4096) (hp1:16<=pages) (hp:pages<=1024) (hG:w.cell? ⟨G,0,none⟩=some (.int .u32 0)):
  Calls prog 33 #[.agg (ig pages stack (.slice a1 n c1) (.slice (some ⟨G,0,none⟩) 1 c2))] w λe w'=>Below w.heap.size w w'/\e=.returned (.int .i64 (if lh n stack pages=true then 0 else 13)):=by
 have b:Below w.heap.size w (w.alloc (.cells (ig pages stack (.slice a1 n c1) (.slice (some ⟨G,0,none⟩) 1 c2)) 37)):=az;have a:=aa b;have H:=aa (I9 (w.alloc (.cells (ig pages stack (.slice a1 n c1) (.slice (some ⟨G,0,none⟩) 1 c2)) 37)) pages stack n c1 c2 G a1 hn1 hn hs hs1 hs2 hp1 hp ((b.cell (aH hG)).trans hG));obtain⟨x,f⟩:∃x:Int,(if lh n stack pages=true then 0 else 13)=x:=⟨_,rfl⟩;rw[f]at H ⊢;clear f b hG
 go_enter func33,ntmps33
 go_wp2_with fail;refine H.mono ?_;rintro e u ⟨d,g,h,i,j,k,l,m,o,rfl⟩;have c:=aa (a.trans (d.mono a.size));clear d H a;go_wp2_with fail;go_ret;exact⟨c.alloc c.size _,rfl⟩
theorem du {e:TypeId} (h:w.ownsRow base e size v n xs) (hc:Chg S w w') (hn:∀g,v.ownBlock=some g->¬S g):w'.ownsRow base e size v n xs:=by
 obtain⟨f,c⟩:=h;refine⟨f,?_⟩;rcases c with c|⟨g,a,b,rfl,i,d,r⟩
 ·exact .inl c
 ·exact .inr ⟨g,a,b,rfl,i,by rw[hc.block _ (ab d) (hn g rfl)];exact d,r⟩
theorem cc {e:TypeId} (h:w.ownsRow base e size v n xs):∃a m c,v=.slice a m c:=by
 rcases h.2 with⟨rfl,_⟩|⟨g,b,d,rfl,_⟩
 ·exact⟨_,_,_,rfl⟩
 ·exact⟨_,_,_,rfl⟩
theorem wT {e:TypeId} (h:w.ownsRow base e size v n xs) {g:Nat} (hg:v.ownBlock=some g):g<w.heap.size:=by
 obtain⟨a,c,b⟩:=bG h hg;exact ab b
theorem yy (a b:Tx):Lib.strCells ⟨a.toArray⟩++Lib.strCells ⟨b.toArray⟩=Lib.strCells ⟨(a++b).toArray⟩:=by unfold Lib.strCells;simp
theorem Tryz.info5P:(Tryz.prog.info? 5).map (λi=>(i.zero,i.size,i.bytes))=some (some (.int .u8 0),1,1):=by kernel_rfl
section
variable {P:Program}
theorem qh (w:World) {K:Act->World->Prop} {E:Prop} (hgd:o.guard=none) (s x:Operand) (t u:TypeId)
 (ho:o.op=.call { callee:=.builtin .append,args:=#[s,x],argTypes:=#[t,u] })
 (base:Nat) (e:TypeId) (i:TypeInfo) (ht:P.underlying t=some (.slice e)) (hu:P.underlying u=some .string) (hi:P.info? e=some i) (hz:i.zero=some (.int .u8 0)) (hsize:i.size=1) (hby:i.bytes=1)
 (v:Value) (n:Nat) (xs:List Value) (hs:a.eval s=v) (hown:w.ownsRow base e 1 v n xs) (tx:ByteArray) (hx:a.eval x=.string tx) (h63:n+tx.size<=maxLen) (hbytes:n+tx.size<=140737488355328) (hbase:base<=w.heap.size)
 (h:∀v' w',w'.ownsRow base e 1 v' (n+tx.size) (xs++Lib.strCells tx)->w.grownBy w' v.ownBlock->K (a.put o.dst v') w'):
  if Region.wanted o (yielded ops a.tmps)=true then Oper.wp P o a w K Q else E:=by
 have f:Region.wanted o (yielded ops a.tmps)=true:=by simp[Region.wanted,hgd]
 rw[ax f];obtain⟨v',w',d,b,c,g⟩:=Lib.run_append_own_string (P:=P) w base t u o.type e i ht hu hi hz hsize hby v n xs hown tx h63 hbytes hbase;unfold Oper.wp execOp;simp only[ho,resolve,invoke,builtin,jX,Sem.run_pure,vT,tM,dX,kW,hs,hx,d];exact h v' w' b c
end
theorem Tryz.info5:(Tryz.prog.info? 5).map (λi=>(i.zero,i.size,i.bytes))=some (some (.int .u8 0),1,1):=by kernel_rfl
structure EB (w:World) (B lo:Nat) (v:Value) (bs:Tx):Prop where
 b:One w B v 65
 own:w.ownsRow lo 5 1 v bs.length (Lib.strCells ⟨bs.toArray⟩)
 l:B<lo
theorem EB.chg (h:EB w B lo v bs) (hc:Chg S w w') (h1:¬S B) (h2:∀k,lo<=k->¬S k):EB w' B lo v bs:=
 ⟨h.b.chg hc h1,fV h.own (hc.same h2),h.l⟩
theorem EB.below (h:EB w B lo v bs) (hb:Below w.heap.size w w'):EB w' B lo v bs:=h.chg (Chg.of_below (S:=λ_=>False) hb) id λ_ _=>id
theorem Hw (a b:Tx):Lib.strCells ⟨a.toArray⟩++Lib.strCells ⟨b.toArray⟩=Lib.strCells ⟨(a++b).toArray⟩:=by unfold Lib.strCells;simp
theorem oB (a:Tx):(⟨a.toArray⟩:ByteArray).size=a.length:=rfl
def px (w:World) (G off:Nat) (ns:List Int):Prop:=∀j n,ns[j]?=some n->w.cell? ⟨G,off+j,none⟩=some (.int .u32 n)
theorem px.chg {off:Nat} {ns:List Int} (h:px w G off ns) (hc:Chg S w w') (hn:¬S G):px w' G off ns:=λj n hj=>by
 have b:=h j n hj;exact(aI (w:=w) (a:=⟨G,off+j,none⟩) (hc.block G (aH b) hn)).trans b
def Mz (B lo G:Nat) (ns:List Int) (bs:Tx) (w:World) (j:Nat) (wr:World):Prop:=Chg (λi=>i=B\/lo<=i) w wr/\(ns=[]\/wr.heap[G]?=w.heap[G]?)/\∃v,EB wr B lo v (bs++(ns.take j).flatMap le4)
theorem FU (w:World) (B lo G n c:Nat) (v:Value) (bs:Tx) (ns:List Int) (h:EB w B lo v bs) (hlo:lo<=w.heap.size) (hG:px w G 0 ns) (hGB:¬G=B) (hGl:ns=[]\/∃cs fr,w.heap[G]?=some (.cells cs 40 fr)) (hn:n=ns.length) (hr:∀x∈ns,0<=x/\x<4294967296) (hnl:ns.length<=1000000) (hbl:bs.length<=10000000):
  Calls prog 126 #[.int .i64 4,.slice (some ⟨G,0,none⟩) n c,pB B] w λe w'=>e=.returned (.tuple #[])/\Chg (λi=>i=B\/lo<=i) w w'/\∃v',EB w' B lo v' (bs++ns.flatMap le4):=by
 have D:=aa (show Mz B lo G ns bs w 0 w from⟨Chg.refl _ _,.inr rfl,v,by simpa using h⟩);have HG:=aa hG;have A:=aa hn;have HR:=aa hr;have ad:n<=1000000:=by omega
 obtain⟨i0,hi,a7,a8,a9⟩:=cX Tryz.info5;clear h hG hn hr
 go_enter func126,ntmps126
 go_wp2_with fail
 go_loopw [6,9] (λ_ s9 wr=>∃j:Nat,s9=.int .i64 j/\j<=n/\Hid (Mz B lo G ns bs w j wr)) (λ_ s9 _=>match s9 with | .int _ j=>n-j.toNat|_=>0)
 case atStart=>exact⟨0,rfl,aV _,D⟩
 case round =>
  clear D
  rename World=>w5
  obtain⟨j,rfl,hj,U⟩:=hrel;obtain⟨K,P,o,s⟩:=U.out;clear U;have a6:=K.size
  by_cases hlt:j<n
  ·obtain⟨x,V⟩:∃x,ns[j]?=some x:=⟨_,aw (by have:=A.out;omega)⟩
   have S:¬ns=[]:=λe=>by have:=A.out;rw[e]at this;simp at this;omega
   obtain⟨E,F,I⟩:=hGl.resolve_left S;have f:w5.heap[G]?=w.heap[G]?:=P.resolve_left S;have H:w5.heap[G]?=some (.cells E 40 F):=f.trans I;have r:=aa H;have Z:=aa f;have W:=HR.out x (aJ V);have a2:w5.cell? ⟨G,j,none⟩=some (.int .u32 x):=by
    have:=HG.out j x V;rw[cA]at this;exact(aI (w:=w) (a:=⟨G,j,none⟩) f).trans this
   have N:decide ((j:Int)<(n:Int))=true:=by simp;omega
   have R:n-((j:Int)+1).toNat<n-(j:Int).toNat:=by omega
   have O:((ns.take j).flatMap le4).length=4*j:=by rw[tz,bN];have:=A.out;omega
   have M:(bs++(ns.take j).flatMap le4).length<=20000000:=by rw[ac,O];have:=A.out;omega
   obtain⟨b,y⟩:∃b,bs++(ns.take j).flatMap le4=b:=⟨_,rfl⟩;rw[y]at s M;have Y:=aa (show bs++(ns.take (j+1)).flatMap le4=b++le4 x by rw[bT,V,cy,List.flatMap_append,<- y];simp);have H5:=aa s;have HC:=aa K;have b0:=s.b.c;have hE:Hid (Calls prog 127 #[.string ⟨#[]⟩,.int .i64 4,.int .u32 x] w5.drew λe q=>e=.returned (.string ⟨(le4 x).toArray⟩)/\q.cell? ⟨B,0,none⟩=some o/\Hid (EB q B lo o b)/\Hid (Below w5.heap.size w5 q)/\lo<=q.heap.size):=by
    refine(Iu w5.drew x W.1 W.2).mono ?_;rintro e q ⟨rfl,hb⟩;have d:Below w5.heap.size w5 q:=(ai _ _).drew.trans hb;have t:=H5.below d;exact⟨rfl,t.b.c,t,d,ay (ay hlo a6) d.size⟩
   have l:Hid (∀q v' g,EB q B lo o b->Below w5.heap.size w5 q->q.grownBy g o.ownBlock->g.ownsRow lo 5 1 v' (b.length+4) (Lib.strCells ⟨b.toArray⟩++Lib.strCells ⟨(le4 x).toArray⟩) ->
     (g.cell? ⟨B,0,none⟩=some o/\g.frozen? ⟨B,0,none⟩=false)/\Mz B lo G ns bs w (j+1) (g.setCell ⟨B,0,none⟩ v')):=λq v' g t d hg hown=>by
    have L:Chg (λi=>lo<=i) q g:=(Chg.refl _ q).grown hg λk hk hl=>cG t.own k hk;have Q:=t.l;have u:One g B o 65:=t.b.chg L (by omega);have J:q.heap[G]?=some (.cells E 40 F):=(d.block G (ab r.out)).trans r.out;have a0:g.heap[G]?=q.heap[G]?:=hg.block G (ab J) λe=>by
     obtain⟨b,fr,X⟩:=bG t.own e.symm;rw[J]at X;injection X with X;injection X with _ h9 _;exact absurd h9 (by decide)
    have a1:(g.setCell ⟨B,0,none⟩ v').heap[G]?=w.heap[G]?:=(aM g ⟨B,0,none⟩ v' G hGB).trans (a0.trans ((d.block G (ab r.out)).trans Z.out));refine⟨⟨u.c,aD g B 0 _ _ u⟩,((HC.on d).then (L.mono λi _ e=>.inr e)).setCell (p:=⟨B,0,none⟩) (λ_=>.inl rfl) _,.inr a1,v',aA (j:=0) u _,?_,Q⟩;rw[Y.out,ac,<- Hw,ic];exact bg hown (show B<lo from Q) _
   have HX:=aa V;clear V y s K O P f H I;go_wp2_with fail
   go_region_law (first
    | (go_simp;go_at_call 127;refine hE.out.mono ?_;rintro e q ⟨rfl,g0,T,a4,a5⟩;have ae:=aH g0)
    | (refine qh _ (by rfl) _ _ _ _ (by rfl) lo 5 i0 underlying65 underlying9 hi a7 a8 a9 o b.length (Lib.strCells ⟨b.toArray⟩) (by rfl) T.out.own ⟨(le4 x).toArray⟩ (by rfl) (by rw[oB,ic];unfold maxLen;omega) (by rw[oB,ic];omega) a5 ?_;intro v1 g m z;obtain⟨sa,sn,sc,rfl⟩:=bD m;obtain⟨⟨k0,kf⟩,hrel⟩:=l.out q _ g T.out a4.out z m;have C:=aa hrel;clear hrel))
   all_goals
    go_simp;go_wp2_with fail;exact⟨⟨j+1,by simp,hlt,C⟩,R⟩
  ·have a3:j=n:=by omega
   have N:decide ((j:Int)<(n:Int))=false:=by simp;omega
   have l:=aa (show Chg (λi=>i=B\/lo<=i) w w5/\∃v',EB w5 B lo v' (bs++ns.flatMap le4) from⟨K,o,by rw[a3,A.out,cg]at s;exact s⟩);clear K s;go_wp2_with fail;go_end0;exact⟨rfl,l.out⟩
section
variable {P:Program}
theorem oq {rest:List Oper} (hgd:o.guard=none) (s x:Operand) (t u:TypeId)
 (ho:o.op=.call { callee:=.builtin .append,args:=#[s,x],argTypes:=#[t,u] })
 (base:Nat) (e:TypeId) (i:TypeInfo) (ht:P.underlying t=some (.slice e)) (hu:P.underlying u=some .string) (hi:P.info? e=some i) (hz:i.zero=some (.int .u8 0)) (hsize:i.size=1) (hby:i.bytes=1)
 (v:Value) (n:Nat) (xs:List Value) (hs:a.eval s=v) (hown:w.ownsRow base e 1 v n xs) (tx:ByteArray) (hx:a.eval x=.string tx) (h63:n+tx.size<=maxLen) (hbytes:n+tx.size<=140737488355328) (hbase:base<=w.heap.size)
 (h:∀v' w',w'.ownsRow base e 1 v' (n+tx.size) (xs++Lib.strCells tx)->w.grownBy w' v.ownBlock->wpList P ops Q rest (a.put o.dst v') w'):wpList P ops Q (o::rest) a w:=by
 refine wpList_plain hgd λK hK=>?_;obtain⟨v',w',d,b,c,f⟩:=Lib.run_append_own_string (P:=P) w base t u o.type e i ht hu hi hz hsize hby v n xs hown tx h63 hbytes hbase;unfold Oper.wp execOp;simp only[ho,resolve,invoke,builtin,jX,Sem.run_pure,vT,tM,dX,kW,hs,hx,d];exact hK _ _ (h v' w' b c)
end
structure ES (w0 u:World) (img:Array Value) (B:Nat) (bs:Tx):Prop where
 bel:Below w0.heap.size w0 u
 img:u.heap[w0.heap.size]?=some (.cells img 37 (0,0))
 eb:∃v,EB u B (B+1) v bs
 l:w0.heap.size<B
theorem ES.step {v:World} {bs':Tx} {x:Value} (h:ES w0 u img B bs) (hc:Chg (λi=>i=B\/B+1<=i) u v) (hb:EB v B (B+1) x bs'):ES w0 v img B bs':=by
 have a:=h.l;exact⟨hc.below h.bel λi hi=>by omega,by rw[hc.block _ (ab h.img) (by omega)];exact h.img,⟨_,hb⟩,a⟩
theorem ES.below {v:World} (h:ES w0 u img B bs) (hb:Below u.heap.size u v):ES w0 v img B bs:=by
 obtain⟨x,a⟩:=h.eb;exact h.step (Chg.of_below hb) (a.below hb)
theorem ES.lt (h:ES w0 u img B bs):B<u.heap.size:=by
 obtain⟨x,a⟩:=h.eb;exact ab a.b
theorem ES.put {z:World} {c:Nat} (h:ES w0 z img B bs) (ns:List Int) (hG:px z G 0 ns) (hGB:¬G=B) (hGT:∃cs fr,z.heap[G]?=some (.cells cs 40 fr)) (hn:n=ns.length) (hr:∀x∈ns,0<=x/\x<4294967296) (hnl:ns.length<=100000) (hbl:bs.length<=1000000):
  Calls prog 126 #[.int .i64 4,.slice (some ⟨G,0,none⟩) n c,pB B] z λe w'=>e=.returned (.tuple #[])/\ES w0 w' img B (bs++ns.flatMap le4):=by
 obtain⟨x,d⟩:=h.eb;refine(FU z B (B+1) G n c x bs ns d h.lt hG hGB (.inr hGT) hn hr (by omega) (by omega)).mono ?_;rintro e w' ⟨rfl,a,f,b⟩;exact⟨rfl,h.step a b⟩
theorem ES.put4 {c:Nat} {a b d e:Int} (h:ES w0 u img B bs) (hr:∀x∈[a,b,d,e],0<=x/\x<4294967296) (hbl:bs.length<=1000000):
  Calls prog 126 #[.int .i64 4,.slice (some ⟨u.heap.size,0,none⟩) 4 c,pB B] (u.alloc (.cells #[.int .u32 a,.int .u32 b,.int .u32 d,.int .u32 e] 40)) λe' w'=>e'=.returned (.tuple #[])/\ES w0 w' img B (bs++[a,b,d,e].flatMap le4):=by
 have hn:(u.alloc (.cells #[.int .u32 a,.int .u32 b,.int .u32 d,.int .u32 e] 40)).heap[u.heap.size]?=_:=dw rfl;have f:=h.lt;refine(h.below (az)).put [a,b,d,e] (λj x hj=>?_) (by omega) ⟨_,_,hn⟩ rfl hr (by simp) hbl;rw[cA]
 match j,hj with
 | 0,hj=>simp at hj;subst hj;exact(ae hn 0).trans rfl
 | 1,hj=>simp at hj;subst hj;exact(ae hn 1).trans rfl
 | 2,hj=>simp at hj;subst hj;exact(ae hn 2).trans rfl
 | 3,hj=>simp at hj;subst hj;exact(ae hn 3).trans rfl
theorem ES.put1 {c:Nat} {a:Int} (h:ES w0 u img B bs) (h0:0<=a) (h1:a<4294967296) (hbl:bs.length<=1000000):
  Calls prog 126 #[.int .i64 4,.slice (some ⟨u.heap.size,0,none⟩) 1 c,pB B] (u.alloc (.cells #[.int .u32 a] 40)) λe' w'=>e'=.returned (.tuple #[])/\ES w0 w' img B (bs++le4 a):=by
 have hn:(u.alloc (.cells #[.int .u32 a] 40)).heap[u.heap.size]?=_:=dw rfl;have b:=h.lt;have:=(h.below ((ai _ _).alloc (ag _) (.cells #[.int .u32 a] 40))).put (c:=c) (n:=1) [a] (λj x hj=>?_) (by omega) ⟨_,_,hn⟩ rfl (λx hx=>by rw[aZ]at hx;subst hx;exact⟨h0,h1⟩) (by simp) hbl
 ·rw[show[a].flatMap le4=le4 a by simp]at this;exact this
 ·rw[cA]
  match j,hj with
  | 0,hj=>simp at hj;subst hj;exact(ae hn 0).trans rfl
theorem ES.c (h:ES w0 u (ig pages stack cv sv) B bs):u.cell? ⟨w0.heap.size,0,none⟩=some (.int .i64 pages)/\u.cell? ⟨w0.heap.size,1,none⟩=some (.int .i64 stack)/\u.cell? ⟨w0.heap.size,2,none⟩=some (.int .i64 0)/\u.cell? ⟨w0.heap.size,3,none⟩=some cv/\u.cell? ⟨w0.heap.size,4,none⟩=some (.string ⟨#[]⟩)/\u.cell? ⟨w0.heap.size,5,none⟩=some (.slice none 0 0)/\u.cell? ⟨w0.heap.size,6,none⟩=some sv:=
 ⟨(ae h.img 0).trans rfl,(ae h.img 1).trans rfl,(ae h.img 2).trans rfl,(ae h.img 3).trans rfl,(ae h.img 4).trans rfl,(ae h.img 5).trans rfl,(ae h.img 6).trans rfl⟩
theorem xM (w:World) (pages stack g c1 c2 G:Nat) (ws:List Int) (hn1:1<=ws.length) (hn:ws.length<=4096) (hs:stack%256=0) (hs1:256<=stack) (hs2:stack<=4096) (hp1:16<=pages) (hp:pages<=1024) (hN:px w g 0 ws) (hr:∀x∈ws,0<=x/\x<4294967296) (hgT:∃cs fr,w.heap[g]?=some (.cells cs 40 fr)) (hG:px w G 0 [0]) (hGT:∃cs fr,w.heap[G]?=some (.cells cs 40 fr)) (hok:lh ws.length stack pages=true):
  Calls prog 76 #[.agg (ig pages stack (.slice (some ⟨g,0,none⟩) ws.length c1) (.slice (some ⟨G,0,none⟩) 1 c2))] w λe w'=>Below w.heap.size w w'/\e=.returned (.tuple #[.string ⟨(mv pages stack ws).toArray⟩,.int .i64 0]):=by
 have hb:Below w.heap.size w (w.alloc (.cells (ig pages stack (.slice (some ⟨g,0,none⟩) ws.length c1) (.slice (some ⟨G,0,none⟩) 1 c2)) 37)):=az;have a4:w.cell? ⟨G,0,none⟩=some (.int .u32 0):=hG 0 0 rfl;have V:=aa (oQ (w.alloc (.cells (ig pages stack (.slice (some ⟨g,0,none⟩) ws.length c1) (.slice (some ⟨G,0,none⟩) 1 c2)) 37)) pages stack ws.length c1 c2 G (some ⟨g,0,none⟩) hn1 hn hs hs1 hs2 hp1 hp ((hb.cell (aH a4)).trans a4));rw[ax hok]at V
 go_enter func76,ntmps76
 go_wp2_with fail;refine V.mono ?_;rintro e u ⟨hu,rfl⟩;have a5:Below w.heap.size w u:=hb.trans (hu.mono hb.size);have H:u.heap[w.heap.size]?=some (.cells (ig pages stack (.slice (some ⟨g,0,none⟩) ws.length c1) (.slice (some ⟨G,0,none⟩) 1 c2)) 37 (0,0)):=(hu.block _ (by simp)).trans (dw rfl);have a7:w.heap.size<u.heap.size:=ab H;have ai:ES w (u.alloc (.cells #[bX] 65)) (ig pages stack (.slice (some ⟨g,0,none⟩) ws.length c1) (.slice (some ⟨G,0,none⟩) 1 c2)) u.heap.size []:=
  ⟨a5.alloc a5.size _,(dF u _ a7).trans H,⟨bX,dw rfl,bq _ _ _ _,by omega⟩,a7⟩
 have D:=aa ai;have ap:=aa (show∃cs fr,w.heap[G]?=some (.cells cs 40 fr) from hGT);have aG:G<w.heap.size:=by obtain⟨_,_,h⟩:=hGT;exact ab h
 have aI:g<w.heap.size:=by obtain⟨_,_,h⟩:=hgT;exact ab h
 have aB:=aa hgT;have HN:=aa hN;have ao:=aa hG;have HR:=aa hr;obtain⟨i0,hi,aQ,aS,aT⟩:=cX Tryz.info5;clear hb a4 V hu a5 H ai hGT hgT hN hG hr
 go_upto_region 6 with fail
 obtain⟨B,hB⟩:∃B,u.heap.size=B:=⟨_,rfl⟩;rw[hB]at D ⊢;generalize u.alloc (.cells #[bX] 65)=u0 at D ⊢;clear hB a7;obtain⟨r,s,t,v,y,z,A⟩:=D.c;have a9:=aa (D.put4 (c:=4) (a:=pages) (b:=stack) (d:=0) (e:=ws.length) (λx hx=>by
  simp only[aR,jG,or_false]at hx;rcases hx with h|h|h|h<;>subst h<;>omega) (by simp))
 go_wp2_with fail;refine a9.mono ?_;rintro e u1 ⟨rfl,Z⟩;obtain⟨t1,L⟩:∃t1,([]:Tx)++[(pages:Int),stack,0,ws.length].flatMap le4=t1:=⟨_,rfl⟩;rw[L]at Z;have aJ:t1.length=16:=by rw[<- L];rfl
 have aq:=aa L;have m:=aa Z;clear a9 D r s t v y z A Z L;obtain⟨r,s,t,v,y,z,A⟩:=m.c;have ad:=aa (m.put (G:=g) (n:=ws.length) (c:=c1) ws (HN.chg (Chg.of_below (S:=λ_=>False) m.bel) id) (by have:=m.l;omega) (by obtain⟨cs,fr,h⟩:=aB.out;exact⟨cs,fr,(m.bel.block g aI).trans h⟩) rfl HR.out (by omega) (by omega));go_wp2_with fail;refine ad.mono ?_;rintro e u2 ⟨rfl,a0⟩;obtain⟨t2,M⟩:∃t2,t1++ws.flatMap le4=t2:=⟨_,rfl⟩;rw[M]at a0;have aK:t2.length=16+4*ws.length:=by rw[<- M,ac,tz,aJ]
 have ar:=aa M;have W:=aa a0;clear ad m r s t v y z A a0 M;obtain⟨r,s,t,v,y,z,A⟩:=W.c;have ae:=aa (W.put1 (c:=1) (a:=0) (by omega) (by omega) (by omega));go_wp2_with fail;refine ae.mono ?_;rintro e u3 ⟨rfl,a1⟩;obtain⟨f,N⟩:∃f,t2++le4 0=f:=⟨_,rfl⟩;rw[N]at a1;have aL:f.length=20+4*ws.length:=by rw[<- N,ac,aK,ic];omega
 have au:=aa N;have E:=aa a1;clear ae W r s t v y z A a1 N;obtain⟨r,s,t,v,y,z,A⟩:=E.c;obtain⟨v3,R⟩:=E.eb;obtain⟨va,vn,vc,rfl⟩:=bD R.own;have b0:=R.b.c;have J:=aa R;have aW:=E.lt;have T:Hid (∀v' C,u3.grownBy C (Value.slice va vn vc).ownBlock->C.ownsRow (B+1) 5 1 v' (f.length+(⟨#[]⟩:ByteArray).size) (Lib.strCells ⟨f.toArray⟩++Lib.strCells ⟨#[]⟩)->(C.cell? ⟨B,0,none⟩=some (.slice va vn vc)/\C.frozen? ⟨B,0,none⟩=false)/\ES w (C.setCell ⟨B,0,none⟩ v') (ig pages stack (.slice (some ⟨g,0,none⟩) ws.length c1) (.slice (some ⟨G,0,none⟩) 1 c2)) B f):=λv' C hg hown=>by
  have ak:Chg (λi=>B+1<=i) u3 C:=(Chg.refl _ u3).grown hg λk hk hl=>cG J.own k hk;have Y:One C B (.slice va vn vc) 65:=J.b.chg ak (by omega);have a6:C.ownsRow (B+1) 5 1 v' f.length (Lib.strCells ⟨f.toArray⟩):=by
   have e1:f.length+(⟨#[]⟩:ByteArray).size=f.length:=rfl;have e2:Lib.strCells ⟨f.toArray⟩++Lib.strCells ⟨#[]⟩=Lib.strCells ⟨f.toArray⟩:=by simp[Lib.strCells]
   rw[e1,e2]at hown;exact hown
  exact⟨⟨Y.c,aD C B 0 _ _ Y⟩,E.step ((ak.mono λi _ e=>.inr e).setCell (p:=⟨B,0,none⟩) (λ_=>.inl rfl) v') (x:=v') ⟨aA (j:=0) Y _,bg a6 (show B<B+1 from cI B) _,cI B⟩⟩
 clear R
 go_upto_region 10 with(at_builtin;refine oq (by rfl) _ _ _ _ (by rfl) (B+1) 5 i0 underlying65 underlying9 hi aQ aS aT (.slice va vn vc) f.length (Lib.strCells ⟨f.toArray⟩) (by rfl) J.own ⟨#[]⟩ (by rfl) (by show f.length+0<=_;unfold maxLen;omega) (by show f.length+0<=_;omega) (by omega) ?_;intro v1 C l F;obtain⟨sa,sn,sc,rfl⟩:=bD l;obtain⟨⟨q0,qf⟩,hrel⟩:=T.out _ C F l;have I:=aa hrel;clear hrel l F)
 generalize C.setCell ⟨B,0,none⟩ (.slice sa sn sc)=u4 at I ⊢;clear T E J b0 q0 qf r s t v y z A;obtain⟨r,s,t,v,y,z,A⟩:=I.c;have af:=aa (I.put1 (c:=1) (a:=0) (by omega) (by omega) (by omega));go_wp2_with fail;refine af.mono ?_;rintro e u5 ⟨rfl,a2⟩;obtain⟨t5,O⟩:∃t5,f++le4 0=t5:=⟨_,rfl⟩;rw[O]at a2;have aM:t5.length=24+4*ws.length:=by rw[<- O,ac,aL,ic];omega
 have av:=aa O;have X:=aa a2;clear af I r s t v y z A a2 O;obtain⟨r,s,t,v,y,z,A⟩:=X.c;have ag:=aa (X.put1 (c:=1) (a:=1) (by omega) (by omega) (by omega));go_wp2_with fail;refine bC 1 ?_;rw[aO];go_wp2_with fail;refine ag.mono ?_;rintro e u6 ⟨rfl,a3⟩;obtain⟨t6,P⟩:∃t6,t5++le4 1=t6:=⟨_,rfl⟩;rw[P]at a3;have aN:t6.length=28+4*ws.length:=by rw[<- P,ac,aM,ic];omega
 have aw:=aa P;have o:=aa a3;clear ag X r s t v y z A a3 P;obtain⟨r,s,t,v,y,z,A⟩:=o.c;have ah:=aa (o.put (G:=G) (n:=1) (c:=c2) [0] (ao.chg (Chg.of_below (S:=λ_=>False) o.bel) id) (by have:=o.l;omega) (by obtain⟨cs,fr,h⟩:=ap.out;exact⟨cs,fr,(o.bel.block G aG).trans h⟩) rfl (λx hx=>by rw[aZ]at hx;omega) (by simp) (by omega));go_wp2_with fail;refine ah.mono ?_;rintro e u7 ⟨rfl,K⟩;obtain⟨U,Q⟩:∃U,t6++[(0:Int)].flatMap le4=U:=⟨_,rfl⟩;rw[Q]at K;have aP:U.length=32+4*ws.length:=by rw[<- Q,ac,aN];show 28+4*ws.length+4=_;omega
 have ay:=aa Q;obtain⟨v7,q⟩:=K.eb;have an:=aa K.bel;obtain⟨aU,aV,am,rfl⟩:=bD q.own;have al:aV=U.length:=by
  rcases q.own.2 with⟨h1,h0⟩|⟨gg,aC,aE,a8,_⟩
  ·omega
  ·injection a8 with _ e2 _
 subst al;have b7:=q.b.c;have aX:(convert 65 9 (.slice aU U.length am)).run prog u7=.ok (.string ⟨U.toArray⟩) u7:=by
  rcases q.own.2 with⟨_,h0⟩|⟨gg,aC,aE,a8,_⟩
  ·omega
  ·injection a8 with e1 e2 e3
   subst e1 e3;refine run_convert_bytes_back u7 65 9 5 ⟨gg,0,none⟩ am U underlying65 underlying5 underlying9 λj hj=>?_;have aj:(⟨gg,0,none⟩:Addr).add j=⟨gg,j,none⟩:=by unfold Addr.add;split<;>simp_all
   rw[aj,q.own.cellAt j (by omega)];unfold Lib.strCells;simp[hj]
 clear ah o r s t v y z A K Q q aP;go_wp2_with fail;go_ret2;refine⟨an.out,?_⟩;have e7:U=mv pages stack ws:=by
  rw[<- ay.out,<- aw.out,<- av.out,<- au.out,<- ar.out,<- aq.out];unfold mv;simp[aF]
 rw[<- e7];rfl
end Go.Proofs.YtbeaaimcpkogcaaGreatDoor
