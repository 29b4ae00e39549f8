/- Lemmas on the way to the claim. -/
import Derived.Test.YtbeaaimcpkogcaaGreatDoorM12
set_option linter.unusedSimpArgs false
set_option linter.unusedVariables false
set_option maxHeartbeats 1000000
set_option maxRecDepth 100000
namespace Go.Proofs.YtbeaaimcpkogcaaGreatDoor
open Go.Proofs.Tryz Go.RowKit
variable {A S S':Nat->Prop} {a w w':World} {P X b lo o:Nat} {p:Addr} {s:PS} {v x y:Value} {cs:Array Value} {k n:Int} {t:Tx} {fr:Nat×Nat} {xs:List Value}
structure Chg (S:Nat->Prop) (w w':World):Prop where
 os:w'.os=w.os
 tape:w'.tape=w.tape
 output:w'.output=w.output
 size:w.heap.size<=w'.heap.size
 block:∀k,k<w.heap.size->¬S k->w'.heap[k]?=w.heap[k]?
theorem Chg.refl (S:Nat->Prop) (w:World):Chg S w w:=⟨rfl,rfl,rfl,ag _,λ_ _ _=>rfl⟩
theorem Chg.trans {b c:World} (h:Chg S a b) (k:Chg S' b c) (hs:∀i,i<a.heap.size->S' i->S i):Chg S a c:=
 ⟨k.os.trans h.os,k.tape.trans h.tape,k.output.trans h.output,ay h.size k.size,λi hi hn=>(k.block i (bu hi h.size) λq=>hn (hs i hi q)).trans (h.block i hi hn)⟩
theorem Chg.then {b c:World} (h:Chg S a b) (k:Chg S b c):Chg S a c:=h.trans k λ_ _ q=>q
theorem Chg.of_below {b:World} (h:Below a.heap.size a b):Chg S a b:=⟨h.os,h.tape,h.output,h.size,λk hk _=>h.block k hk⟩
theorem Chg.on {b c:World} (h:Chg S a b) (k:Below b.heap.size b c):Chg S a c:=h.then (.of_below k)
theorem Chg.alloc (h:Chg S a w) (o:Obj):Chg S a (w.alloc o):=h.on (az)
theorem Chg.drew (h:Chg S a w):Chg S a w.drew:=h.on (ai _ _).drew
theorem Chg.setCell (h:Chg S a w) (hp:p.block<a.heap.size->S p.block) (u:Value):Chg S a (w.setCell p u):=
 ⟨h.os,h.tape,h.output,by simp[World.setCell];exact h.size,λk hk hn=>by
  rw[aM _ _ _ _ (λe=>hn (by rw[e];exact hp (by omega)))];exact h.block k hk hn⟩
theorem Chg.mono {b:World} (h:Chg S a b) (hs:∀i,i<a.heap.size->S i->S' i):Chg S' a b:=⟨h.os,h.tape,h.output,h.size,λk hk hn=>h.block k hk λq=>hn (hs k hk q)⟩
theorem Chg.below {w0 b:World} (h:Chg S a b) (hw:Below w0.heap.size w0 a) (hs:∀i,S i->w0.heap.size<=i):Below w0.heap.size w0 b:=
 hw.trans ⟨h.os,h.tape,h.output,h.size,λk hk=>h.block k (bu hk hw.size) λq=>by have:=hs k q;omega⟩
structure HeadAt (w:World) (P:Nat) (x y:Value) (k:Int) (t:Tx) (n:Int):Prop where
 ex:∃T o len cap,w.heap[P]?=some (.cells #[.slice (some ⟨T,o,none⟩) len cap,x,y] 54 (0,0))/\1<=len/\len<=cap/\T≠P /\
  w.cell? ⟨T,o,none⟩=some (.int .i64 k)/\w.cell? ⟨T,o+1,none⟩=some (.string ⟨t.toArray⟩)/\w.cell? ⟨T,o+1+1,none⟩=some (.int .i64 n)/\∃cur fr,w.heap[T]?=some (.cells cur 59 fr)
def D8 (t:Tok):Prop:=t.text.length<=4294967296/\(t.kind=2->t.text≠[]/\(∀u∈t.text,48<=u.toNat/\u.toNat<=57)/\tY t.text<=4294967295/\t.text.length<=4294967296)
def TB (w:World) (P:Nat):Prop:=∃w0,Tabs w0/\w0.heap.size<=P/\Below w0.heap.size w0 w
theorem TB.on (h:TB w P) (hb:Below w.heap.size w w'):TB w' P:=by
 obtain⟨d,b,c,a⟩:=h;exact⟨d,b,c,a.trans (hb.mono a.size)⟩
theorem TB.set (h:TB w P) (hp:P<=p.block) (v:Value):TB (w.setCell p v) P:=by
 obtain⟨d,a,b,c⟩:=h;exact⟨d,a,b,c.setCell (by omega) v⟩
structure PG (w:World) (P:Nat) (s:PS):Prop where
 ex:∃T o cap al,w.heap[P]?=some (.cells #[.slice (some ⟨T,o,none⟩) al.length cap,.int .i64 s.d,.pointer none] 54 (0,0))/\al.map (·.1)=s.ts/\al.length<=cap/\T≠P /\
  (∀j u,(eO al)[j]?=some u->w.cell? ⟨T,o+j,none⟩=some u)/\∃cur fr,w.heap[T]?=some (.cells cur 59 fr)
 ne:s.ts≠[]
 last:∀t,s.ts.getLast?=some t->t.kind=5
 ok:∀t∈s.ts,D8 t
 deep:s.d<=64
 tb:TB w P
structure PB (w:World) (P:Nat):Prop where
 ex:∃d f k t n,HeadAt w P (.int .i64 d) (.pointer (some ⟨f,0,none⟩)) k t n/\f≠P/\jV w f
theorem PG.head (h:PG w P s):∃n,HeadAt w P (.int .i64 s.d) (.pointer none) (hd s).kind (hd s).text n:=by
 obtain⟨T,o,c,i,j,g,k,l,f,m⟩:=h.ex;have b:=h.ne;rw[<- g]at b
 match i,b with
 | a::r,_ =>
  have e:hd s=a.1:=by unfold hd;rw[<- g];rfl
  rw[e];exact⟨a.2,T,o,_,c,j,by simp,k,l,f 0 _ rfl,f 1 _ rfl,f 2 _ rfl,m⟩
theorem aH (h:w.cell? ⟨b,o,none⟩=some v):b<w.heap.size:=by
 rcases gG b w.heap.size with a|a
 ·exact a
 ·simp[World.cell?,Array.getElem?_eq_none a]at h
theorem cC (w:World) (P:Nat) (x y:Value) (k:Int) (t:Tx) (n:Int) (h:HeadAt w P x y k t n):
  Calls prog 16 #[.pointer (some ⟨P,0,none⟩)] w λe w'=>e=.returned (.agg #[.int .i64 k,.string ⟨t.toArray⟩,.int .i64 n])/\Below w.heap.size w w':=by
 obtain⟨T,o,len,a,b,f,g,i,c,c1,c2,_⟩:=h.ex;have d:w.cell? ⟨P,0,none⟩=some (.slice (some ⟨T,o,none⟩) len a):=(ae b 0).trans rfl;have j:=ab b;have l:=aH c
 go_enter func16,ntmps16
 go_wp2_with fail;exact aN (results_cell_row (p:=2) rfl _ _ w.heap.size 59 #[.int .i64 k,.string ⟨t.toArray⟩,.int .i64 n] (0,0) _ rfl (af _ _) underlying59 rfl (by kernel_rfl)) rfl ⟨rfl,az⟩
theorem fk (w:World) (P:Nat) (a:Option Addr) (h:w.cell? ⟨P,2,none⟩=some (.pointer a)) (b:Bool) (hb:a.isSome=b):
  Calls prog 15 #[.pointer (some ⟨P,0,none⟩)] w λe w'=>e=.returned (.bool b)/\w=w':=by
 subst hb;cases a <;>
 ·go_enter func15,ntmps15
  go_wp2_with fail;go_ret;exact⟨rfl,rfl⟩
theorem aA {j:Nat} {T:TypeId} (h:w.heap[b]?=some (.cells cs T (0,0))) (v:Value):(w.setCell ⟨b,j,none⟩ v).heap[b]?=some (.cells (cs.setIfInBounds j v) T (0,0)):=
 heap_setCell_same w b j cs T v h
theorem PG.cells (h:PG w P s):∃T o n cap,w.heap[P]?=some (.cells #[.slice (some ⟨T,o,none⟩) n cap,.int .i64 s.d,.pointer none] 54 (0,0))/\n=s.ts.length/\1<=n/\n<=cap:=by
 obtain⟨T,o,cap,a,c,e,f,g,i,_⟩:=h.ex;have b:a.length=s.ts.length:=by rw[<- e];simp
 refine⟨T,o,a.length,cap,c,b,?_,f⟩;have:=h.ne;rw[b];exact bc.2 this
theorem PG.stepped (h:PG w P s) (h1:1<s.ts.length) {T n cap:Nat} (hc:w.heap[P]?=some (.cells #[.slice (some ⟨T,o,none⟩) n cap,.int .i64 s.d,.pointer none] 54 (0,0))):
  PG (w.setCell ⟨P,0,none⟩ (.slice (some ⟨T,o+3,none⟩) (n-1) (cap-1))) P (aS s):=by
 obtain⟨z,x,f,y,i,g,l,m,p,q⟩:=h.ex;rw[i]at hc;simp only[aq,Obj.cells.injEq,iF,fN,Value.slice.injEq,Addr.mk.injEq,A9,true_and]at hc;obtain⟨⟨rfl,rfl⟩,rfl,rfl⟩:=hc;have e:aS s=⟨s.ts.tail,s.d⟩:=by unfold aS;rw[ax h1]
 rw[e];have b:y.length=s.ts.length:=by rw[<- g];simp
 match y,i,g,l,p,b with
 | [],_,_,_,_,b=>simp at b;omega
 | a::r,i,g,l,p,b =>
  have v:s.ts.tail=r.map (·.1):=by rw[<- g];rfl
  have E:r.map (·.1)≠[]:=by
   intro A;have:r.length=0:=by simpa using aB List.length A
   simp at b;omega
  refine⟨⟨z,x+3,f-1,r,aA (j:=0) i _,v.symm,by simp at l;omega,m,?_,by obtain⟨k,B,q⟩:=q;exact⟨k,B,by rw[aM _ _ _ _ m];exact q⟩⟩,by show s.ts.tail≠[];rw[v];exact E,?_,?_,h.deep,h.tb.set (ag _) _⟩
  ·intro j u C
   rw[bf _ _ _ _ (λe=>m (by injection e with e1;exact e1.symm))];have:=p (j+3) u (by simpa [eO]using C);rw[show x+3+j=x+(j+3) by omega];exact this
  ·intro t c
   refine h.last t ?_;show s.ts.getLast?=_;rw[<- g];change s.ts.tail.getLast?=some t at c;rw[v]at c;rw[dX,List.getLast?_cons,c];rfl
  ·intro t D
   exact h.ok t (List.mem_of_mem_tail D)
theorem dZ (w:World) (P:Nat) (s:PS) (h:PG w P s):
  Calls prog 110 #[.pointer (some ⟨P,0,none⟩)] w λe w'=>e=.returned (.tuple #[])/\Chg (·=P) w w'/\PG w' P (aS s):=by
 obtain⟨T,o,n,a,b,hn,j,k⟩:=h.cells;have g:w.cell? ⟨P,0,none⟩=some (.slice (some ⟨T,o,none⟩) n a):=(ae b 0).trans rfl;have i:=aD w P 0 _ _ b
 by_cases hl:1<s.ts.length
 ·have c:=aa (h.stepped hl b)
  have d:1<n:=by omega
  have f:¬a=1:=by omega
  clear b hn
  go_enter func110,ntmps110
  go_wp2_with fail;go_end0;exact⟨rfl,Chg.setCell (S:=(·=P)) (Chg.refl _ _) (λ_=>rfl) _,c.out⟩
 ·have d:¬1<n:=by omega
  have c:=aa (show aS s=s by unfold aS;rw[ap hl]);clear b hn
  go_enter func110,ntmps110
  go_wp2_with fail;go_end0;exact⟨rfl,Chg.refl _ _,by rw[c.out];exact h⟩
def KO (ws:List Tx) (k:Int) (t:Tx):Bool:=(decide (k=4)||decide (k=3))&&ws.contains t
theorem pd (w:Tx) (s:PS):KO [w] (hd s).kind (hd s).text=isW w s:=by
 unfold KO isW;simp[List.contains_cons,Bool.beq_eq_decide_eq]
theorem jS (w:World) (P:Nat) (x:Value) (k:Int) (t:Tx) (n:Int) (h:HeadAt w P x (.pointer none) k t n) (b c:Nat) (ws:List Tx) (hb:w.heap[b]?=some (.cells (txs ws).toArray 9 (0,0))) (hl:ws.length<=1000) (m:Nat) (hm:m=ws.length) (r:Bool) (hr:KO ws k t=r):
  Calls prog 113 #[.pointer (some ⟨P,0,none⟩),.slice (some ⟨b,0,none⟩) m c] w λe w'=>e=.returned (.bool r)/\Below w.heap.size w w':=by
 have f:w.cell? ⟨P,2,none⟩=some (.pointer none):=by
  obtain⟨T,o,len,K,L,_⟩:=h.ex;exact(ae L 2).trans rfl
 obtain⟨q,F⟩:∃q,ws.contains t=q:=⟨_,rfl⟩;have g:r=((decide (k=4)||decide (k=3))&&q):=by rw[<- hr,<- F];rfl
 have H:=aa F;have G:=aa hm;have B:=aa hb;clear F hm hb hr;rcases(by omega:k=4\/k=3\/(k≠4/\k≠3))with E|E|⟨A,y⟩
 ·subst E
  have a:r=q:=by rw[g];simp
  have C:=aa a;clear g a
  go_enter func113,ntmps113
  go_wp2_with fail;refine(cC w P x _ 4 t n h).mono ?_;rintro e u ⟨rfl,l⟩;have d:=aa (l.alloc l.size (.cells #[.int .i64 4,.string ⟨t.toArray⟩,.int .i64 n] 59));generalize D:u.alloc (.cells #[.int .i64 4,.string ⟨t.toArray⟩,.int .i64 n] 59)=v at d;have i:v.heap[u.heap.size]?=some (.cells #[.int .i64 4,.string ⟨t.toArray⟩,.int .i64 n] 59 (0,0)):=by rw[<- D];exact af _ _
  have I:v.cell? ⟨u.heap.size,0,none⟩=some (.int .i64 4):=(ae i 0).trans rfl;have J:v.cell? ⟨u.heap.size,1,none⟩=some (.string ⟨t.toArray⟩):=(ae i 1).trans rfl;have j:v.cell? ⟨P,2,none⟩=some (.pointer none):=by rw[d.cell (p:=⟨P,2,none⟩) (aH f)];exact f
  have s:=aa ((d.block b (ab B.out)).trans B.out);clear l i;go_wp2_with fail;refine(fk v P none j false rfl).mono ?_;rintro e z ⟨rfl,rfl⟩;go_wp2_with fail;refine(gM b m c ws t _ G.out (by omega) s.out q H.out).mono ?_;rintro e z ⟨rfl,rfl⟩;go_wp2_with fail;go_ret;exact⟨kB C.symm,d.out⟩
 ·subst E
  have a:r=q:=by rw[g];simp
  have C:=aa a;clear g a
  go_enter func113,ntmps113
  go_wp2_with fail;refine(cC w P x _ 3 t n h).mono ?_;rintro e u ⟨rfl,l⟩;have d:=aa (l.alloc l.size (.cells #[.int .i64 3,.string ⟨t.toArray⟩,.int .i64 n] 59));generalize D:u.alloc (.cells #[.int .i64 3,.string ⟨t.toArray⟩,.int .i64 n] 59)=v at d;have i:v.heap[u.heap.size]?=some (.cells #[.int .i64 3,.string ⟨t.toArray⟩,.int .i64 n] 59 (0,0)):=by rw[<- D];exact af _ _
  have I:v.cell? ⟨u.heap.size,0,none⟩=some (.int .i64 3):=(ae i 0).trans rfl;have J:v.cell? ⟨u.heap.size,1,none⟩=some (.string ⟨t.toArray⟩):=(ae i 1).trans rfl;have j:v.cell? ⟨P,2,none⟩=some (.pointer none):=by rw[d.cell (p:=⟨P,2,none⟩) (aH f)];exact f
  have s:=aa ((d.block b (ab B.out)).trans B.out);clear l i;go_wp2_with fail;refine(fk v P none j false rfl).mono ?_;rintro e z ⟨rfl,rfl⟩;go_wp2_with fail;refine(gM b m c ws t _ G.out (by omega) s.out q H.out).mono ?_;rintro e z ⟨rfl,rfl⟩;go_wp2_with fail;go_ret;exact⟨kB C.symm,d.out⟩
 ·have a:r=false:=by rw[g];simp[A,y]
  have C:=aa a;have N:(k==4)=false:=by simpa using A
  have M:(k==3)=false:=by simpa using y
  clear g a A y
  go_enter func113,ntmps113
  go_wp2_with fail;refine(cC w P x _ k t n h).mono ?_;rintro e u ⟨rfl,l⟩;have d:=aa (l.alloc l.size (.cells #[.int .i64 k,.string ⟨t.toArray⟩,.int .i64 n] 59));generalize D:u.alloc (.cells #[.int .i64 k,.string ⟨t.toArray⟩,.int .i64 n] 59)=v at d;have i:v.heap[u.heap.size]?=some (.cells #[.int .i64 k,.string ⟨t.toArray⟩,.int .i64 n] 59 (0,0)):=by rw[<- D];exact af _ _
  have I:v.cell? ⟨u.heap.size,0,none⟩=some (.int .i64 k):=(ae i 0).trans rfl;have J:v.cell? ⟨u.heap.size,1,none⟩=some (.string ⟨t.toArray⟩):=(ae i 1).trans rfl;have j:v.cell? ⟨P,2,none⟩=some (.pointer none):=by rw[d.cell (p:=⟨P,2,none⟩) (aH f)];exact f
  have s:=aa ((d.block b (ab B.out)).trans B.out);clear l i;go_wp2_with fail;refine(fk v P none j false rfl).mono ?_;rintro e z ⟨rfl,rfl⟩;go_wp2_with fail;go_ret;exact⟨kB C.symm,d.out⟩
theorem HeadAt.on (h:HeadAt w P x y k t n) (hb:Below w.heap.size w w'):HeadAt w' P x y k t n:=by
 obtain⟨T,o,len,b,e,g,i,j,d,c1,c2,c,f,l⟩:=h.ex;have a:=aH d;exact⟨T,o,len,b,by rw[hb.block _ (ab e)];exact e,g,i,j,by rw[hb.cell (p:=⟨T,_,none⟩) a];exact d,by rw[hb.cell (p:=⟨T,_,none⟩) a];exact c1,by rw[hb.cell (p:=⟨T,_,none⟩) a];exact c2,c,f,by rw[hb.block _ a];exact l⟩
theorem HeadAt.c2 (h:HeadAt w P x y k t n):w.cell? ⟨P,2,none⟩=some y:=by
 obtain⟨T,o,len,a,b,_⟩:=h.ex;exact(ae b 2).trans rfl
theorem HeadAt.c1 (h:HeadAt w P x y k t n):w.cell? ⟨P,1,none⟩=some x:=by
 obtain⟨T,o,len,a,b,_⟩:=h.ex;exact(ae b 1).trans rfl
theorem HeadAt.free (h:HeadAt w P x y k t n) (j:Nat):w.frozen? ⟨P,j,none⟩=false:=by
 obtain⟨T,o,len,a,b,_⟩:=h.ex;exact aD w P j _ _ b
theorem HeadAt.set1 (h:HeadAt w P x y k t n) (x':Value):HeadAt (w.setCell ⟨P,1,none⟩ x') P x' y k t n:=by
 obtain⟨T,o,len,b,i,l,m,d,f,c1,c2,c,g,p⟩:=h.ex;have a:∀j,(⟨P,1,none⟩:Addr)≠⟨T,j,none⟩:=λj e=>d (by injection e with e1;exact e1.symm);exact⟨T,o,len,b,aA (j:=1) i x',l,m,d,by rw[bf _ _ _ _ (a _)];exact f,by rw[bf _ _ _ _ (a _)];exact c1,by rw[bf _ _ _ _ (a _)];exact c2,c,g,by rw[aM _ _ _ _ d];exact p⟩
theorem HeadAt.set2 (h:HeadAt w P x y k t n) (y':Value):HeadAt (w.setCell ⟨P,2,none⟩ y') P x y' k t n:=by
 obtain⟨T,o,len,b,i,l,m,d,f,c1,c2,c,g,p⟩:=h.ex;have a:∀j,(⟨P,2,none⟩:Addr)≠⟨T,j,none⟩:=λj e=>d (by injection e with e1;exact e1.symm);exact⟨T,o,len,b,aA (j:=2) i y',l,m,d,by rw[bf _ _ _ _ (a _)];exact f,by rw[bf _ _ _ _ (a _)];exact c1,by rw[bf _ _ _ _ (a _)];exact c2,c,g,by rw[aM _ _ _ _ d];exact p⟩
theorem PG.on (h:PG w P s) (hb:Below w.heap.size w w'):PG w' P s:=by
 obtain⟨T,o,a,f,c,i,k,l,d,b,g,e⟩:=h.ex;exact⟨⟨T,o,a,f,by rw[hb.block _ (ab c)];exact c,i,k,l,λj u hj=>by rw[hb.cell (p:=⟨T,_,none⟩) (aH (d j u hj))];exact d j u hj,b,g,by rw[hb.block _ (ab e)];exact e⟩,h.ne,h.last,h.ok,h.deep,h.tb.on hb⟩
theorem jV.on {f:Nat} (h:jV w f) (hb:Below w.heap.size w w'):jV w' f:=by
 obtain⟨c,a,h⟩:=h;exact⟨c,a,by rw[hb.block _ (ab h)];exact h⟩
theorem jV.set {f:Nat} (h:jV w f) (hp:p.block≠f) (v:Value):jV (w.setCell p v) f:=by
 obtain⟨c,a,h⟩:=h;exact⟨c,a,by rw[aM _ _ _ _ (iq hp)];exact h⟩
theorem PB.on (h:PB w P) (hb:Below w.heap.size w w'):PB w' P:=by
 obtain⟨d,f,k,t,n,c,b,a⟩:=h.ex;exact⟨d,f,k,t,n,c.on hb,b,a.on hb⟩
theorem o9 (w:World) (P:Nat) (h:PB w P) (v:Value):
  Calls prog 113 #[.pointer (some ⟨P,0,none⟩),v] w λe w'=>e=.returned (.bool false)/\Below w.heap.size w w':=by
 obtain⟨d,f,k,t,n,i,l,j⟩:=h.ex;have a:=i.c2
 go_enter func113,ntmps113
 go_wp2_with fail;refine(cC w P _ _ k t n i).mono ?_;rintro e u ⟨rfl,g⟩;have b:=aa (g.alloc g.size (.cells #[.int .i64 k,.string ⟨t.toArray⟩,.int .i64 n] 59));generalize m:u.alloc (.cells #[.int .i64 k,.string ⟨t.toArray⟩,.int .i64 n] 59)=v' at b;have c:v'.cell? ⟨P,2,none⟩=some (.pointer (some ⟨f,0,none⟩)):=by rw[b.cell (p:=⟨P,2,none⟩) (aH a)];exact a
 clear g;go_wp2_with fail;refine(fk v' P _ c true rfl).mono ?_;rintro e z ⟨rfl,rfl⟩;go_wp2_with fail;go_ret;exact⟨rfl,b.out⟩
theorem rE (a b c:Value) (w:World):(Instr.field 59 (.agg #[a,b,c]) 2).run prog w=.ok c w:=by kernel_rfl
theorem ko (w:World) (P:Nat) (x:Value) (k:Int) (t:Tx) (n:Int) (h:HeadAt w P x (.pointer none) k t n) (c:Int) (d:Int) (hx:x=.int .i64 d):
  Calls prog 109 #[.pointer (some ⟨P,0,none⟩),.int .i64 c] w λe w'=>e=.returned (.tuple #[])/\Chg (·=P) w w'/\PB w' P:=by
 have a:=h.c2;have j:=h.free 2
 go_enter func109,ntmps109
 go_wp2_with fail;refine(fk w P none a false rfl).mono ?_;rintro e z ⟨rfl,rfl⟩;go_wp2_with fail;refine(cC w P _ _ k t n h).mono ?_;rintro e u ⟨rfl,f⟩;have l:=aH a;have b:=h.on f;have g:=aa (Chg.of_below (S:=(·=P)) f);have p:=b.free 2;have q:=b.c2;have i:=aa b;have m:P<u.heap.size:=bu l f.size;have o:=rE (.int .i64 k) (.string ⟨t.toArray⟩) (.int .i64 n) u;clear f b j;go_wp2_with fail;go_end0;subst hx;refine⟨rfl,Chg.alloc (Chg.setCell (S:=(·=P)) g.out (λ_=>rfl) _) _,⟨d,u.heap.size,k,t,n,(i.set2 _).on (az),by omega,?_⟩⟩;have e:=af (u.setCell ⟨P,2,none⟩ (.pointer (some ⟨u.heap.size,0,none⟩))) (.cells #[.int .i64 c,.int .i64 n] 122);rw[show(u.setCell ⟨P,2,none⟩ (.pointer (some ⟨u.heap.size,0,none⟩))).heap.size=u.heap.size by simp[World.setCell]]at e;exact⟨_,_,e⟩
theorem zr (w:World) (P:Nat) (h:PB w P) (c:Int):
  Calls prog 109 #[.pointer (some ⟨P,0,none⟩),.int .i64 c] w λe w'=>e=.returned (.tuple #[])/\w=w':=by
 obtain⟨d,f,k,t,n,g,i,b⟩:=h.ex;have a:=g.c2
 go_enter func109,ntmps109
 go_wp2_with fail;refine(fk w P _ a true rfl).mono ?_;rintro e z ⟨rfl,rfl⟩;go_wp2_with fail;go_end0;exact⟨rfl,rfl⟩
theorem pD (w:World) (P:Nat) (s:PS) (h:PG w P s) (wd:Tx) (hw:isW wd s=true):
  Calls prog 63 #[.pointer (some ⟨P,0,none⟩),.string ⟨wd.toArray⟩] w λe w'=>e=.returned (.bool true)/\Chg (·=P) w w'/\PG w' P (aS s):=by
 obtain⟨n,o⟩:=h.head;have a:=(pd wd s).trans hw;have b:Below w.heap.size w (w.alloc (.cells (txs [wd]).toArray 9)):=az;have l:=aa (jS (w.alloc (.cells (txs [wd]).toArray 9)) P _ _ _ n (o.on b) w.heap.size 1 [wd] (af _ _) (by simp) 1 rfl true a);have k:=aa (h.on b);have j:=aa b;clear hw a b
 go_enter func63,ntmps63
 go_wp2_with fail;refine l.mono ?_;rintro e u ⟨rfl,g⟩;have d:=aa g;clear g;go_wp2_with fail;refine(dZ u P s (k.on d.out)).mono ?_;rintro e z ⟨rfl,i,f⟩;have m:=aa i;have c:=aa f;clear i f;go_wp2_with fail;go_ret;exact⟨rfl,((Chg.of_below j.out).on d.out).then m.out,c.out⟩
theorem su (w:World) (P:Nat) (s:PS) (h:PG w P s) (wd:Tx) (hw:isW wd s=false):
  Calls prog 63 #[.pointer (some ⟨P,0,none⟩),.string ⟨wd.toArray⟩] w λe w'=>e=.returned (.bool false)/\Below w.heap.size w w':=by
 obtain⟨n,i⟩:=h.head;have a:=(pd wd s).trans hw;have b:Below w.heap.size w (w.alloc (.cells (txs [wd]).toArray 9)):=az;have f:=aa (jS (w.alloc (.cells (txs [wd]).toArray 9)) P _ _ _ n (i.on b) w.heap.size 1 [wd] (af _ _) (by simp) 1 rfl false a);have c:=aa b;clear hw a b
 go_enter func63,ntmps63
 go_wp2_with fail;refine f.mono ?_;rintro e u ⟨rfl,d⟩;have g:=aa d;clear d;go_wp2_with fail;go_ret;exact⟨rfl,c.trans (g.mono c.size)⟩
theorem pF (w:World) (P:Nat) (h:PB w P) (wd:Tx):
  Calls prog 63 #[.pointer (some ⟨P,0,none⟩),.string ⟨wd.toArray⟩] w λe w'=>e=.returned (.bool false)/\Below w.heap.size w w':=by
 have a:Below w.heap.size w (w.alloc (.cells (txs [wd]).toArray 9)):=az;have d:=aa (h.on a);have b:=aa a;clear a
 go_enter func63,ntmps63
 go_wp2_with fail;refine(o9 _ P d.out _).mono ?_;rintro e u ⟨rfl,c⟩;have f:=aa c;clear c;go_wp2_with fail;go_ret;exact⟨rfl,b.trans (f.mono b.size)⟩
theorem kG (w:World) (P:Nat) (s:PS) (h:PG w P s) (wd:Tx) (hw:isW wd s=true):
  Calls prog 59 #[.pointer (some ⟨P,0,none⟩),.string ⟨wd.toArray⟩] w λe w'=>e=.returned (.tuple #[])/\Chg (·=P) w w'/\PG w' P (aS s):=by
 go_enter func59,ntmps59
 go_wp2_with fail;refine(pD w P s h wd hw).mono ?_;rintro e u ⟨rfl,b,a⟩;have d:=aa b;have c:=aa a;clear b a hw;go_wp2_with fail;go_end0;exact⟨rfl,d.out,c.out⟩
theorem qI (w:World) (P:Nat) (s:PS) (h:PG w P s) (wd:Tx) (hw:isW wd s=false):
  Calls prog 59 #[.pointer (some ⟨P,0,none⟩),.string ⟨wd.toArray⟩] w λe w'=>e=.returned (.tuple #[])/\Chg (·=P) w w'/\PB w' P:=by
 obtain⟨n,i⟩:=h.head
 go_enter func59,ntmps59
 go_wp2_with fail;refine(su w P s h wd hw).mono ?_;rintro e u ⟨rfl,c⟩;have a:=aa c;clear c hw;go_wp2_with fail;refine(ko u P _ _ _ n (i.on a.out) 4 _ rfl).mono ?_;rintro e z ⟨rfl,d,b⟩;have g:=aa d;have f:=aa b;clear d b;go_wp2_with fail;go_end0;exact⟨rfl,(Chg.of_below a.out).then g.out,f.out⟩
theorem iJ (w:World) (P:Nat) (h:PB w P) (wd:Tx):
  Calls prog 59 #[.pointer (some ⟨P,0,none⟩),.string ⟨wd.toArray⟩] w λe w'=>e=.returned (.tuple #[])/\Below w.heap.size w w':=by
 go_enter func59,ntmps59
 go_wp2_with fail;refine(pF w P h wd).mono ?_;rintro e u ⟨rfl,b⟩;have a:=aa b;clear b;go_wp2_with fail;refine(zr u P (h.on a.out) 4).mono ?_;rintro e z ⟨rfl,rfl⟩;go_wp2_with fail;go_end0;exact⟨rfl,a.out⟩
theorem PG.set1 (h:PG w P s) (d:Nat) (hd:d<=64):PG (w.setCell ⟨P,1,none⟩ (.int .i64 d)) P ⟨s.ts,d⟩:=by
 obtain⟨T,o,a,f,i,k,l,c,m,b,g,n⟩:=h.ex;exact⟨⟨T,o,a,f,aA (j:=1) i _,k,l,c,λj u hj=>by rw[bf _ _ _ _ (λe=>c (by injection e with e1;exact e1.symm))];exact m j u hj,b,g,by rw[aM _ _ _ _ c];exact n⟩,h.ne,h.last,h.ok,hd,h.tb.set (ag _) _⟩
theorem PB.set1 (h:PB w P) (d:Int):PB (w.setCell ⟨P,1,none⟩ (.int .i64 d)) P:=by
 obtain⟨e,f,k,t,n,c,b,a⟩:=h.ex;exact⟨d,f,k,t,n,c.set1 _,b,a.set (iq b) _⟩
theorem HeadAt.setOther (h:HeadAt w P x y k t n) {ty:TypeId} (hX:w.heap[X]?=some (.cells cs ty fr)) (h59:ty≠59) (hP:X≠P) (j:Nat) (v:Value):HeadAt (w.setCell ⟨X,j,none⟩ v) P x y k t n:=by
 obtain⟨T,o,len,c,m,p,q,r,l,c1,c2,d,f,g⟩:=h.ex;have b:T≠X:=by
  rintro rfl;rw[g]at hX;simp only[aq,Obj.cells.injEq]at hX;exact h59 hX.2.1.symm
 have a:∀i,(⟨X,j,none⟩:Addr)≠⟨T,i,none⟩:=λi e=>b (by injection e with e1;exact e1.symm);exact⟨T,o,len,c,by rw[aM _ _ _ _ (iq hP)];exact m,p,q,r,by rw[bf _ _ _ _ (a _)];exact l,by rw[bf _ _ _ _ (a _)];exact c1,by rw[bf _ _ _ _ (a _)];exact c2,d,f,by rw[aM _ _ _ _ b];exact g⟩
theorem PG.setOther (h:PG w P s) {ty:TypeId} (hX:w.heap[X]?=some (.cells cs ty fr)) (h59:ty≠59) (hP:P<X) (j:Nat) (v:Value):PG (w.setCell ⟨X,j,none⟩ v) P s:=by
 obtain⟨T,o,b,k,l,m,n,p,q,c,d,g⟩:=h.ex;have a:T≠X:=by
  rintro rfl;rw[g]at hX;simp only[aq,Obj.cells.injEq]at hX;exact h59 hX.2.1.symm
 have f:∀i,(⟨X,j,none⟩:Addr)≠⟨T,i,none⟩:=λi e=>a (by injection e with e1;exact e1.symm);exact⟨⟨T,o,b,k,by rw[aM _ _ _ _ (show P≠X by omega)];exact l,m,n,p,λi u hi=>by rw[bf _ _ _ _ (f _)];exact q i u hi,c,d,by rw[aM _ _ _ _ a];exact g⟩,h.ne,h.last,h.ok,h.deep,h.tb.set (Nat.le_of_lt hP) _⟩
theorem PB.setOther (h:PB w P) {ty:TypeId} (hX:w.heap[X]?=some (.cells cs ty fr)) (h59:ty≠59) (h122:ty≠122) (hP:P<X) (j:Nat) (v:Value):PB (w.setCell ⟨X,j,none⟩ v) P:=by
 obtain⟨d,f,k,t,n,l,i,b⟩:=h.ex;refine⟨d,f,k,t,n,l.setOther hX h59 (by omega) j v,i,b.set (λe=>?_) _⟩;obtain⟨c,a,g⟩:=b;have:X=f:=e;subst this;rw[g]at hX;simp only[aq,Obj.cells.injEq]at hX;exact h122 hX.2.1.symm
theorem PG.c1 (h:PG w P s):w.cell? ⟨P,1,none⟩=some (.int .i64 s.d):=by
 obtain⟨n,a⟩:=h.head;exact a.c1
theorem PG.free (h:PG w P s) (j:Nat):w.frozen? ⟨P,j,none⟩=false:=by
 obtain⟨n,a⟩:=h.head;exact a.free j
theorem PB.c1 (h:PB w P):∃d:Int,w.cell? ⟨P,1,none⟩=some (.int .i64 d):=by
 obtain⟨d,f,k,t,n,a,_⟩:=h.ex;exact⟨d,a.c1⟩
theorem PB.free (h:PB w P) (j:Nat):w.frozen? ⟨P,j,none⟩=false:=by
 obtain⟨d,f,k,t,n,a,_⟩:=h.ex;exact a.free j
theorem yT (w:World) (P:Nat) (s:PS) (h:PG w P s) (hk:(hd s).kind=1):
  Calls prog 60 #[.pointer (some ⟨P,0,none⟩)] w λe w'=>e=.returned (.string ⟨(hd s).text.toArray⟩)/\Chg (·=P) w w'/\PG w' P (aS s):=by
 obtain⟨n,b⟩:=h.head;rw[hk]at b;obtain⟨t,l⟩:∃t,(hd s).text=t:=⟨_,rfl⟩;rw[l]at b ⊢;have q:=aa b;have a:=b.c2;clear b l hk
 go_enter func60,ntmps60
 go_wp2_with fail;refine(cC w P _ _ 1 t n q.out).mono ?_;rintro e u ⟨rfl,f⟩;have c:=aa (f.alloc f.size (.cells #[.int .i64 1,.string ⟨t.toArray⟩,.int .i64 n] 59));generalize x:u.alloc (.cells #[.int .i64 1,.string ⟨t.toArray⟩,.int .i64 n] 59)=v at c;have d:v.heap[u.heap.size]?=some (.cells #[.int .i64 1,.string ⟨t.toArray⟩,.int .i64 n] 59 (0,0)):=by rw[<- x];exact af _ _
 have A:v.cell? ⟨u.heap.size,0,none⟩=some (.int .i64 1):=(ae d 0).trans rfl;have y:v.cell? ⟨u.heap.size,1,none⟩=some (.string ⟨t.toArray⟩):=(ae d 1).trans rfl;have i:u.heap.size≠P:=λe=>by have:=aH a;have:=f.size;omega
 have g:v.cell? ⟨P,2,none⟩=some (.pointer none):=by rw[c.cell (p:=⟨P,2,none⟩) (aH a)];exact a
 have m:=aa d;clear f d;go_wp2_with fail;refine(fk v P none g false rfl).mono ?_;rintro e z ⟨rfl,rfl⟩;go_wp2_with fail;refine(dZ v P s (h.on c.out)).mono ?_;rintro e z ⟨rfl,j,k⟩;have B:z.cell? ⟨u.heap.size,1,none⟩=some (.string ⟨t.toArray⟩):=(aI (w:=v) (j.block _ (ab m.out) i)).trans y;have r:=aa j;have o:=aa k;clear j k;go_wp2_with fail;go_ret;exact⟨rfl,(Chg.of_below c.out).then r.out,o.out⟩
theorem CE (w:World) (P:Nat) (s:PS) (h:PG w P s) (hk:(hd s).kind≠1):
  Calls prog 60 #[.pointer (some ⟨P,0,none⟩)] w λe w'=>e=.returned (.string ⟨#[]⟩)/\Chg (·=P) w w'/\PB w' P:=by
 obtain⟨n,d⟩:=h.head;obtain⟨t,o⟩:∃t,(hd s).text=t:=⟨_,rfl⟩;obtain⟨k,a⟩:∃k,(hd s).kind=k:=⟨_,rfl⟩;rw[o,a]at d;rw[a]at hk;have A:(k != 1)=true:=by simpa using hk
 have j:=aa d;have b:=d.c2;clear d o hk a
 go_enter func60,ntmps60
 go_wp2_with fail;refine(cC w P _ _ k t n j.out).mono ?_;rintro e u ⟨rfl,i⟩;have c:=aa (i.alloc i.size (.cells #[.int .i64 k,.string ⟨t.toArray⟩,.int .i64 n] 59));generalize y:u.alloc (.cells #[.int .i64 k,.string ⟨t.toArray⟩,.int .i64 n] 59)=v at c;have l:v.heap[u.heap.size]?=some (.cells #[.int .i64 k,.string ⟨t.toArray⟩,.int .i64 n] 59 (0,0)):=by rw[<- y];exact af _ _
 have B:v.cell? ⟨u.heap.size,0,none⟩=some (.int .i64 k):=(ae l 0).trans rfl;have g:v.cell? ⟨P,2,none⟩=some (.pointer none):=by rw[c.cell (p:=⟨P,2,none⟩) (aH b)];exact b
 have f:=aa (j.on c.out);clear i l;go_wp2_with fail;refine(fk v P none g false rfl).mono ?_;rintro e z ⟨rfl,rfl⟩;go_wp2_with fail;refine(ko v P _ _ _ n f.out 4 _ rfl).mono ?_;rintro e z ⟨rfl,q,m⟩;have x:=aa q;have r:=aa m;clear q m;go_wp2_with fail;go_ret;exact⟨rfl,(Chg.of_below c.out).then x.out,r.out⟩
theorem yU (w:World) (P:Nat) (h:PB w P):
  Calls prog 60 #[.pointer (some ⟨P,0,none⟩)] w λe w'=>e=.returned (.string ⟨#[]⟩)/\Below w.heap.size w w':=by
 obtain⟨d,f,k,t,n,g,m,l⟩:=h.ex;have j:=aa g;have a:=g.c2;clear g
 go_enter func60,ntmps60
 go_wp2_with fail;refine(cC w P _ _ k t n j.out).mono ?_;rintro e u ⟨rfl,i⟩;have b:=aa (i.alloc i.size (.cells #[.int .i64 k,.string ⟨t.toArray⟩,.int .i64 n] 59));generalize o:u.alloc (.cells #[.int .i64 k,.string ⟨t.toArray⟩,.int .i64 n] 59)=v at b;have c:v.cell? ⟨P,2,none⟩=some (.pointer (some ⟨f,0,none⟩)):=by rw[b.cell (p:=⟨P,2,none⟩) (aH a)];exact a
 clear i;go_wp2_with fail;refine(fk v P _ c true rfl).mono ?_;rintro e z ⟨rfl,rfl⟩;go_wp2_with fail;refine(zr v P (h.on b.out) 4).mono ?_;rintro e z ⟨rfl,rfl⟩;go_wp2_with fail;go_ret;exact⟨rfl,b.out⟩
def pC {A:Type} (S:Nat->Prop) (P:Nat) (f:Nat->Option (A×PS)) (m dd:Nat) (Gd:World->A->Prop) (Bd:World->Prop) (u:World) (e:Ending) (u':World):Prop:=
 e=.returned (.tuple #[])/\Chg S u u'/\((∃a s2,Out f (some (a,s2))/\s2.ts.length<=m/\s2.d=dd/\Gd u' a/\PG u' P s2)\/(Out f none/\Bd u'/\PB u' P))
theorem d9 (h:1<s.ts.length):(aS s).ts.length+1=s.ts.length:=by
 unfold aS;rw[ax h];simp;omega
theorem PG.long (h:PG w P s) (hk:(hd s).kind≠5):1<s.ts.length:=by
 have c:=h.ne
 match hs:s.ts,c with
 | [a],_ =>
  have:=h.last a (by rw[hs];rfl);unfold hd at hk;rw[hs]at hk;exact absurd this hk
 | a::b::r,_=>simp
theorem tn {wd:Tx} (h:isW wd s=true):(hd s).kind≠5:=by
 unfold isW at h;simp only[bH,MA,bw]at h;omega
theorem vd {A:Type} (S:Nat->Prop) (P:Nat) (w:World) (wd:Tx) (s:PS) (h:PG w P s) (hS:S P) (fid:FuncId) (caps:Array Value) (k:PS->Nat->Option (A×PS)) (Gd:World->A->Prop) (Bd:World->Prop)
 (hgood:∀u s1,PG u P s1->Chg (·=P) w u->s1.ts.length+1<=s.ts.length->Calls prog fid caps u (pC S P (k s1) s1.ts.length s1.d Gd Bd u))
 (hbad:∀u,PB u P->Chg (·=P) w u->Calls prog fid caps u λe u'=>e=.returned (.tuple #[])/\Chg S u u'/\Bd u'/\PB u' P)
 (hcall:∀u,Sem.run prog (callFunc fid caps) u=.ok (.enter fid caps) u)
 (hG:∀u a (v:Value),Gd u a->Gd (u.setCell ⟨P,1,none⟩ v) a) (hB:∀u (v:Value),Bd u->Bd (u.setCell ⟨P,1,none⟩ v)):
  Calls prog 111 #[.pointer (some ⟨P,0,none⟩),.string ⟨wd.toArray⟩,.func (.func fid) #[] caps] w (pC S P (λn=>inW wd s λs1=>k s1 n) (s.ts.length-1) s.d Gd Bd w):=by
 obtain⟨n,hh⟩:=h.head;have hb:Below w.heap.size w (w.alloc (.cells (txs [wd]).toArray 9)):=az;have D:=aa hb;have a3:=aa hgood;have W:=aa hbad;have a4:=aa hG;have J:=aa hB;have K:=aa hcall;clear hb hgood hbad hG hB hcall;obtain⟨r,hr⟩:∃r,isW wd s=r:=⟨_,rfl⟩;have T:=aa hr;have Q:=aa (jS (w.alloc (.cells (txs [wd]).toArray 9)) P _ _ _ n (hh.on D.out) w.heap.size 1 [wd] (af _ _) (by simp) 1 rfl r ((pd wd s).trans hr));clear hr hh;cases r with
 | false =>
  have R:=aa (show Out (λn=>inW wd s λs1=>k s1 n) (none:Option (A×PS)) fromλn=>by
   unfold inW bP;rw[T.out];simp)
  go_enter func111,ntmps111
  go_wp2_with fail;refine Q.mono ?_;rintro e u ⟨rfl,H⟩;have C:=aa (D.trans (H.mono D.size));clear H Q;go_wp2_with fail;refine(qI u P s (h.on C.out) wd T.out).mono ?_;rintro e z ⟨rfl,j,G⟩;have Y:=aa ((Chg.of_below (S:=(·=P)) C.out).then j);have o:=aa G;clear j G;obtain⟨d,c1⟩:=o.c1;have E:=o.free 1;have l:=aa (o.set1 (wrap64 (d+1)));have c:=aa (Y.setCell (p:=⟨P,1,none⟩) (λ_=>rfl) (.int .i64 (wrap64 (d+1))));have t:=K.out (z.setCell ⟨P,1,none⟩ (.int .i64 (wrap64 (d+1))));go_wp2_with fail;refine(W.out _ l.out c.out).mono ?_;rintro e y ⟨rfl,I,f,g⟩;have U:=aa ((c.mono (S':=S) λi _ q=>by subst q;exact hS).then I);have m:=aa f;have b:=aa g;clear I f g c1 E t;obtain⟨d2,c1⟩:=b.c1;have E:=b.free 1;go_wp2_with fail;go_end0;exact⟨rfl,U.setCell (p:=⟨P,1,none⟩) (λ_=>hS) _,.inr ⟨R.out,J.out _ _ m.out,b.set1 _⟩⟩
 | true =>
  by_cases hd:64<=s.d
  ·have R:=aa (show Out (λn=>inW wd s λs1=>k s1 n) (none:Option (A×PS)) fromλn=>by
    show inW wd s (λs1=>k s1 n)=none;unfold inW;rw[ax ⟨T.out,hd⟩])
   have a9:decide ((64:Int)<=(s.d:Int))=true:=by simp;omega
   have M:(w.alloc (.cells (txs [wd]).toArray 9)).cell? ⟨P,1,none⟩=some (.int .i64 s.d):=(h.on D.out).c1;clear hd
   go_enter func111,ntmps111
   go_wp2_with fail;refine Q.mono ?_;rintro e u ⟨rfl,H⟩;have C:=aa (D.trans (H.mono D.size));clear H Q M;have N:u.cell? ⟨P,1,none⟩=some (.int .i64 s.d):=(h.on C.out).c1;obtain⟨n2,a0⟩:=(h.on C.out).head;have a6:=aa a0;clear a0;go_wp2_with fail;refine(ko u P _ _ _ n2 a6.out 3 _ rfl).mono ?_;rintro e z0 ⟨rfl,j,G⟩;have a8:=aa ((Chg.of_below (S:=(·=P)) C.out).then j);have X:=aa G;clear j G N;go_wp2_with fail;refine(iJ z0 P X.out wd).mono ?_;rintro e z ⟨rfl,j⟩;have Y:=aa (a8.on j);have o:=aa (X.on j);clear j;obtain⟨d,c1⟩:=o.c1;have E:=o.free 1;have l:=aa (o.set1 (wrap64 (d+1)));have c:=aa (Y.setCell (p:=⟨P,1,none⟩) (λ_=>rfl) (.int .i64 (wrap64 (d+1))));have t:=K.out (z.setCell ⟨P,1,none⟩ (.int .i64 (wrap64 (d+1))));go_wp2_with fail;refine(W.out _ l.out c.out).mono ?_;rintro e y ⟨rfl,I,f,g⟩;have U:=aa ((c.mono (S':=S) λi _ q=>by subst q;exact hS).then I);have m:=aa f;have b:=aa g;clear I f g c1 E t;obtain⟨d2,c1⟩:=b.c1;have E:=b.free 1;go_wp2_with fail;go_end0;exact⟨rfl,U.setCell (p:=⟨P,1,none⟩) (λ_=>hS) _,.inr ⟨R.out,J.out _ _ m.out,b.set1 _⟩⟩
  ·have ag:s.d<64:=by omega
   have B:=h.long (tn T.out);have ae:=d9 B;have R:=aa (show∀n,inW wd s (λs1=>k s1 n)=(k ⟨(aS s).ts,(aS s).d+1⟩ n).bind λr=>some (r.1,⟨r.2.ts,r.2.d-1⟩) fromλn=>by
    unfold inW bP;rw[ap (λq=>hd q.2),ax T.out];rfl)
   have ad:(aS s).d=s.d:=rfl;have a9:decide ((64:Int)<=(s.d:Int))=false:=by simp;omega
   have M:(w.alloc (.cells (txs [wd]).toArray 9)).cell? ⟨P,1,none⟩=some (.int .i64 s.d):=(h.on D.out).c1;clear hd B
   go_enter func111,ntmps111
   go_wp2_with fail;refine Q.mono ?_;rintro e u ⟨rfl,H⟩;have C:=aa (D.trans (H.mono D.size));clear H Q M;have N:u.cell? ⟨P,1,none⟩=some (.int .i64 s.d):=(h.on C.out).c1;go_wp2_with fail;refine(kG u P s (h.on C.out) wd T.out).mono ?_;rintro e z ⟨rfl,j,G⟩;have Y:=aa ((Chg.of_below (S:=(·=P)) C.out).then j);have o:=aa G;clear j G N;have c1:z.cell? ⟨P,1,none⟩=some (.int .i64 s.d):=o.c1;have E:=o.free 1;have l:=aa (o.set1 (s.d+1) (by omega));have c:=aa (Y.setCell (p:=⟨P,1,none⟩) (λ_=>rfl) (.int .i64 ((s.d+1:Nat):Int)));have t:=K.out (z.setCell ⟨P,1,none⟩ (.int .i64 ((s.d:Int)+1)));have ah:(s.d:Int)<64:=by omega
   clear ad;go_wp2_with fail;refine(a3.out (z.setCell ⟨P,1,none⟩ (.int .i64 ((s.d:Int)+1))) ⟨(aS s).ts,s.d+1⟩ l.out c.out (by show(aS s).ts.length+1<=_;omega)).mono ?_;rintro e y ⟨rfl,I,O⟩;have U:=aa ((c.mono (S':=S) λi _ q=>by subst q;exact hS).then I);clear I c1 E t;rcases O with⟨a,V,ho,ab,F,Z,a1⟩|⟨ho,f,g⟩
   ·have b:=aa a1
    have a5:=aa Z;have L:=aa ho;have x:V.d=s.d+1:=F;have c1:y.cell? ⟨P,1,none⟩=some (.int .i64 ((s.d:Int)+1)):=by rw[b.c1,x];rfl
    have E:=b.free 1;have ac:V.ts.length<=s.ts.length-1:=by have:V.ts.length<=(aS s).ts.length:=ab;omega
    have a7:=aa (b.set1 s.d (by omega));have a2:=aa x;clear ho Z a1 F x;go_wp2_with fail;go_end0;refine⟨rfl,U.setCell (p:=⟨P,1,none⟩) (λ_=>hS) _,.inl ⟨a,⟨V.ts,s.d⟩,?_,ac,rfl,a4.out _ _ _ a5.out,a7.out⟩⟩;obtain⟨n,hn⟩:=L.out;refine⟨n,?_⟩;show inW wd s (λs1=>k s1 n)=_;rw[R.out,show k ⟨(aS s).ts,(aS s).d+1⟩ n=_ from hn];show some (a,(⟨V.ts,V.d-1⟩:PS))=_;rw[a2.out];rfl
   ·have b:=aa g
    have m:=aa f;have L:=aa ho;clear ho f g;obtain⟨d2,c1⟩:=b.c1;have E:=b.free 1;go_wp2_with fail;go_end0;exact⟨rfl,U.setCell (p:=⟨P,1,none⟩) (λ_=>hS) _,.inr ⟨λn=>by show inW wd s (λs1=>k s1 n)=none;rw[R.out,show k ⟨(aS s).ts,(aS s).d+1⟩ n=none from L.out n];rfl,J.out _ _ m.out,b.set1 _⟩⟩
abbrev pB (b:Nat):Value:=.pointer (some ⟨b,0,none⟩)
abbrev exC (k n:Int) (nm t:Tx) (l r args:Value) (ln:Int):Obj:=.cells #[.int .i64 k,.int .u32 n,.string ⟨nm.toArray⟩,.string ⟨t.toArray⟩,l,r,args,.int .i64 ln] 269 (0,0)
def li (w:World) (A:Nat->Prop) (e:TypeId) (v:Value) (n:Nat) (xs:List Value):Prop:=w.ownsRow 0 e 1 v n xs/\∀g,v.ownBlock=some g->A g
mutual
def bK (w:World) (A:Nat->Prop):Nat->Ex->Prop
 | b,.num n=>A b/\∃ln,w.heap[b]?=some (exC 1 n [] [] (.pointer none) (.pointer none) (.slice none 0 0) ln)
 | b,.name s=>A b/\∃ln,w.heap[b]?=some (exC 2 0 s [] (.pointer none) (.pointer none) (.slice none 0 0) ln)
 | b,.un t r=>A b/\∃ln rb,w.heap[b]?=some (exC 3 0 [] t (.pointer none) (pB rb) (.slice none 0 0) ln)/\bK w A rb r
 | b,.bin t l r=>A b/\∃ln lb rb,w.heap[b]?=some (exC 3 0 [] t (pB lb) (pB rb) (.slice none 0 0) ln)/\bK w A lb l/\bK w A rb r
 | b,.call s args=>A b/\∃ln v bs,w.heap[b]?=some (exC 4 0 s [] (.pointer none) (.pointer none) v ln)/\li w A 261 v bs.length (bs.map pB)/\dn w A bs args
 | b,.cell l r=>A b/\∃ln lb rb,w.heap[b]?=some (exC 5 0 [] [] (pB lb) (pB rb) (.slice none 0 0) ln)/\bK w A lb l/\bK w A rb r
 | b,.link l r=>A b/\∃ln lb rb,w.heap[b]?=some (exC 6 0 [] [] (pB lb) (pB rb) (.slice none 0 0) ln)/\bK w A lb l/\bK w A rb r
 | b,.new l=>A b/\∃ln lb,w.heap[b]?=some (exC 7 0 [] [] (pB lb) (.pointer none) (.slice none 0 0) ln)/\bK w A lb l
 | b,.inp=>A b/\∃ln,w.heap[b]?=some (exC 8 0 [] [] (.pointer none) (.pointer none) (.slice none 0 0) ln)
def dn (w:World) (A:Nat->Prop):List Nat->List Ex->Prop
 | [],[]=>True
 | b::bs,x::xs=>bK w A b x/\dn w A bs xs
 | _,_=>False
end
def Ge (lo:Nat):Nat->Prop:=λk=>lo<=k
def aX (A:Nat->Prop) (w w':World):Prop:=∀k o,A k->w.heap[k]?=some o->w'.heap[k]?=some o
def bA (lo:Nat) (w w':World):Prop:=∀k o,lo<=k->w.heap[k]?=some o->w'.heap[k]?=some o
theorem Chg.same (h:Chg S w w') (hs:∀k,lo<=k->¬S k):bA lo w w':=λk o hk ho=>by
 rw[h.block k (ab ho) (hs k hk)];exact ho
theorem Chg.sameOn (h:Chg S w w') (hs:∀k,A k->¬S k):aX A w w':=λk o hk ho=>by
 rw[h.block k (ab ho) (hs k hk)];exact ho
theorem bA.below (h:Below w.heap.size w w') (lo:Nat):bA lo w w':=λk o _ ho=>by rw[h.block k (ab ho)];exact ho
theorem aX.below (h:Below w.heap.size w w'):aX A w w':=λk o _ ho=>by rw[h.block k (ab ho)];exact ho
theorem li.on {e:TypeId} {n:Nat} (h:li w A e v n xs) (hs:aX A w w'):li w' A e v n xs:=by
 obtain⟨⟨f,c⟩,d⟩:=h;refine⟨⟨f,?_⟩,d⟩;rcases c with c|⟨g,a,b,rfl,i,j,r⟩
 ·exact .inl c
 ·exact .inr ⟨g,a,b,rfl,i,hs g _ (d g rfl) j,r⟩
theorem li.weak {A':Nat->Prop} {e:TypeId} {n:Nat} (h:li w A e v n xs) (hs:∀k,k<w.heap.size->A k->A' k):li w A' e v n xs:=by
 refine⟨h.1,λg hg=>?_⟩;rcases h.1.2 with⟨rfl,_⟩|⟨d,a,b,rfl,_,c,_⟩
 ·cases hg
 ·simp only[Value.ownBlock,aq]at hg
  subst hg;exact hs _ (ab c) (h.2 _ rfl)
mutual
theorem bK.onA {w w':World} {A:Nat->Prop} (hs:aX A w w'):∀{b:Nat} {x:Ex},bK w A b x->bK w' A b x
 | b,.num n,h=>by rw[bK]at h ⊢;obtain⟨a,c,h⟩:=h;exact⟨a,c,hs _ _ a h⟩
 | b,.name s,h=>by rw[bK]at h ⊢;obtain⟨a,c,h⟩:=h;exact⟨a,c,hs _ _ a h⟩
 | b,.un t r,h=>by rw[bK]at h ⊢;obtain⟨a,c,g,h,e⟩:=h;exact⟨a,c,g,hs _ _ a h,bK.onA hs e⟩
 | b,.bin t l r,h=>by rw[bK]at h ⊢;obtain⟨a,c,f,g,h,d,e⟩:=h;exact⟨a,c,f,g,hs _ _ a h,bK.onA hs d,bK.onA hs e⟩
 | b,.call s args,h=>by rw[bK]at h ⊢;obtain⟨a,c,v,i,h,k,j⟩:=h;exact⟨a,c,v,i,hs _ _ a h,k.on hs,dn.onA hs j⟩
 | b,.cell l r,h=>by rw[bK]at h ⊢;obtain⟨a,c,f,g,h,d,e⟩:=h;exact⟨a,c,f,g,hs _ _ a h,bK.onA hs d,bK.onA hs e⟩
 | b,.link l r,h=>by rw[bK]at h ⊢;obtain⟨a,c,f,g,h,d,e⟩:=h;exact⟨a,c,f,g,hs _ _ a h,bK.onA hs d,bK.onA hs e⟩
 | b,.new l,h=>by rw[bK]at h ⊢;obtain⟨a,c,f,h,d⟩:=h;exact⟨a,c,f,hs _ _ a h,bK.onA hs d⟩
 | b,.inp,h=>by rw[bK]at h ⊢;obtain⟨a,c,h⟩:=h;exact⟨a,c,hs _ _ a h⟩
theorem dn.onA {w w':World} {A:Nat->Prop} (hs:aX A w w'):∀{bs:List Nat} {xs:List Ex},dn w A bs xs->dn w' A bs xs
 | [],[],h=>by rw[dn];trivial
 | b::bs,x::xs,h=>by rw[dn]at h ⊢;exact⟨bK.onA hs h.1,dn.onA hs h.2⟩
 | [],_::_,h=>by rw[dn]at h<;>first|exact h.elim|(intros;simp_all)
 | _::_,[],h=>by rw[dn]at h<;>first|exact h.elim|(intros;simp_all)
end
mutual
theorem bK.weak {w:World} {A A':Nat->Prop} (hl:∀k,k<w.heap.size->A k->A' k):∀{b:Nat} {x:Ex},bK w A b x->bK w A' b x
 | b,.num n,h=>by rw[bK]at h ⊢;obtain⟨a,c,h⟩:=h;exact⟨hl _ (ab h) a,c,h⟩
 | b,.name s,h=>by rw[bK]at h ⊢;obtain⟨a,c,h⟩:=h;exact⟨hl _ (ab h) a,c,h⟩
 | b,.un t r,h=>by rw[bK]at h ⊢;obtain⟨a,c,g,h,e⟩:=h;exact⟨hl _ (ab h) a,c,g,h,bK.weak hl e⟩
 | b,.bin t l r,h=>by rw[bK]at h ⊢;obtain⟨a,c,f,g,h,d,e⟩:=h;exact⟨hl _ (ab h) a,c,f,g,h,bK.weak hl d,bK.weak hl e⟩
 | b,.call s args,h=>by rw[bK]at h ⊢;obtain⟨a,c,v,i,h,m,j⟩:=h;exact⟨hl _ (ab h) a,c,v,i,h,m.weak hl,dn.weak hl j⟩
 | b,.cell l r,h=>by rw[bK]at h ⊢;obtain⟨a,c,f,g,h,d,e⟩:=h;exact⟨hl _ (ab h) a,c,f,g,h,bK.weak hl d,bK.weak hl e⟩
 | b,.link l r,h=>by rw[bK]at h ⊢;obtain⟨a,c,f,g,h,d,e⟩:=h;exact⟨hl _ (ab h) a,c,f,g,h,bK.weak hl d,bK.weak hl e⟩
 | b,.new l,h=>by rw[bK]at h ⊢;obtain⟨a,c,f,h,d⟩:=h;exact⟨hl _ (ab h) a,c,f,h,bK.weak hl d⟩
 | b,.inp,h=>by rw[bK]at h ⊢;obtain⟨a,c,h⟩:=h;exact⟨hl _ (ab h) a,c,h⟩
theorem dn.weak {w:World} {A A':Nat->Prop} (hl:∀k,k<w.heap.size->A k->A' k):∀{bs:List Nat} {xs:List Ex},dn w A bs xs->dn w A' bs xs
 | [],[],h=>by rw[dn];trivial
 | b::bs,x::xs,h=>by rw[dn]at h ⊢;exact⟨bK.weak hl h.1,dn.weak hl h.2⟩
 | [],_::_,h=>by rw[dn]at h<;>first|exact h.elim|(intros;simp_all)
 | _::_,[],h=>by rw[dn]at h<;>first|exact h.elim|(intros;simp_all)
end
theorem bK.on (hs:bA lo w w') {x:Ex} (h:bK w (Ge lo) b x):bK w' (Ge lo) b x:=bK.onA (λk o hk=>hs k o hk) h
theorem bK.lower {lo':Nat} (hl:lo'<=lo) {x:Ex} (h:bK w (Ge lo) b x):bK w (Ge lo') b x:=h.weak λk _ hk=>ay hl hk
def zG (w:World) (b:Nat):Prop:=∃k n nm t l r args ln,w.heap[b]?=some (exC k n nm t l r args ln)
def TV (w:World) (b:Nat) (k:Int) (t:Tx) (n:Int):Prop:=w.heap[b]?=some (.cells #[.int .i64 k,.string ⟨t.toArray⟩,.int .i64 n] 59 (0,0))
theorem TV.c (h:TV w b k t n):w.cell? ⟨b,0,none⟩=some (.int .i64 k)/\w.cell? ⟨b,1,none⟩=some (.string ⟨t.toArray⟩)/\w.cell? ⟨b,2,none⟩=some (.int .i64 n):=
 ⟨(ae h 0).trans rfl,(ae h 1).trans rfl,(ae h 2).trans rfl⟩
theorem TV.below (h:TV w b k t n) (hb:Below w.heap.size w w'):TV w' b k t n:=by
 unfold TV at *;rw[hb.block _ (ab h)];exact h
theorem TV.chg (h:TV w b k t n) (hc:Chg S w w') (hn:¬S b):TV w' b k t n:=by
 unfold TV at *;rw[hc.block _ (ab h) hn];exact h
def One (w:World) (b:Nat) (v:Value) (T:TypeId):Prop:=w.heap[b]?=some (.cells #[v] T (0,0))
theorem One.c {T:TypeId} (h:One w b v T):w.cell? ⟨b,0,none⟩=some v:=bp h
theorem One.below {T:TypeId} (h:One w b v T) (hb:Below w.heap.size w w'):One w' b v T:=by
 unfold One at *;rw[hb.block _ (ab h)];exact h
theorem One.chg {T:TypeId} (h:One w b v T) (hc:Chg S w w') (hn:¬S b):One w' b v T:=by
 unfold One at *;rw[hc.block _ (ab h) hn];exact h
theorem PB.lt (h:PB w P):P<w.heap.size:=by obtain⟨d,hd⟩:=h.c1;exact aH hd
theorem PG.lt (h:PG w P s):P<w.heap.size:=aH h.c1
def Ek (P:Nat) (w:World) (e:Ending) (w':World):Prop:=Chg (·=P) w w'/\∃b,e=.returned (pB b)/\w.heap.size<=b/\zG w' b/\PB w' P
theorem qG (y:World) (P b:Nat) (k:Int) (t:Tx) (n:Int) (h:PB y P) (hv:TV y b k t n):
  Calls prog 60 #[pB P] y.drew λe z=>e=.returned (.string ⟨#[]⟩)/\Below y.heap.size y z/\z.cell? ⟨b,2,none⟩=some (.int .i64 n):=by
 refine(yU y.drew P (h.on (ai _ _).drew)).mono ?_;rintro e z ⟨rfl,c⟩;have a:Below y.heap.size y z:=(ai _ _).drew.trans c;exact⟨rfl,a,(hv.below a).c.2.2⟩
theorem F7 (w:World) (P:Nat) (h:PB w P):Calls prog 216 #[pB P] w (Ek P w):=by
 obtain⟨d,f,k,t,n,r,G,E⟩:=h.ex;have B:=aa r;have j:=r.c2;clear r
 go_enter func216,ntmps216
 go_wp2_with fail;refine(cC w P _ _ k t n B.out).mono ?_;rintro e u ⟨rfl,s⟩;have c:=aa (s.alloc s.size (.cells #[.int .i64 k,.string ⟨t.toArray⟩,.int .i64 n] 59));generalize x:u.alloc (.cells #[.int .i64 k,.string ⟨t.toArray⟩,.int .i64 n] 59)=v at c;have C:=aa (show TV v u.heap.size k t n by rw[<- x];exact af _ _);have g:=aa (h.on c.out);clear s;go_wp2_with fail;refine(o9 _ P (g.on (az)) _).mono ?_;rintro e y ⟨rfl,A⟩;have o:=aa (((ai v.heap.size v).alloc (ag _) _).trans (A.mono (by simp)));have b:=aa (C.below o.out);have a:=aa (g.on o.out);clear A x;obtain⟨F,c1,c2⟩:=b.c;have q:y.cell? ⟨P,2,none⟩=some (.pointer (some ⟨f,0,none⟩)):=by
  rw[(c.trans (o.mono c.size)).cell (p:=⟨P,2,none⟩) (aH j)];exact j
 have m:=aa (c.trans (o.mono c.size))
 by_cases hk:k=2
 ·subst hk
  go_wp2_with fail;refine(fk y P _ q true rfl).mono ?_;rintro e z ⟨rfl,rfl⟩;go_wp2_with fail
  go_region_with (go_at_call 60;refine(qG y P _ _ _ _ a.out b.out).mono ?_;rintro e z ⟨rfl,l,D⟩)
  all_goals
   have i:=aa (m.trans (l.mono m.size));go_wp2_with fail;go_ret;refine⟨(Chg.of_below i.out).alloc _,_,rfl,i.size,⟨_,_,[],[],_,_,_,_,af z _⟩,?_⟩;exact(a.on l).on (az)
 ·have H:(k==2)=false:=by simpa using hk
  clear hk;go_wp2_with fail
  go_region_with (go_at_call 60;refine(qG y P _ _ _ _ a.out b.out).mono ?_;rintro e z ⟨rfl,l,D⟩)
  all_goals
   have i:=aa (m.trans (l.mono m.size));go_wp2_with fail;go_ret;refine⟨(Chg.of_below i.out).alloc _,_,rfl,i.size,⟨_,_,[],[],_,_,_,_,af z _⟩,?_⟩;exact(a.on l).on (az)
theorem Dn (w:World) (P:Nat) (h:PB w P):Calls prog 214 #[pB P] w (Ek P w):=by
 have T:=(ai w.heap.size w).alloc (ag _) (.cells #[pB P] 51);obtain⟨d,f,k,t,n,hh,hf,a1⟩:=(h.on T).ex;have Y:=aa hh;have D:=aa T;generalize W:w.alloc (.cells #[pB P] 51)=w1 at Y D;have Z:=aa (show One w1 w.heap.size (pB P) 51 by rw[<- W];exact af _ _);have x0:=Z.c;have a0:=h.lt;clear hh T
 go_enter func214,ntmps214
 go_wp2_with fail;refine(cC w1 P _ _ k t n Y.out).mono ?_;rintro e u ⟨rfl,H⟩;have N:=aa (H.alloc H.size (.cells #[.int .i64 k,.string ⟨t.toArray⟩,.int .i64 n] 59));generalize hv:u.alloc (.cells #[.int .i64 k,.string ⟨t.toArray⟩,.int .i64 n] 59)=v at N;have HV:=aa (show TV v u.heap.size k t n by rw[<- hv];exact af _ _);have V:¬u.heap.size=P:=λe=>by have:=h.lt;have:=D.size;have:=H.size;omega
 have A:¬w.heap.size=P:=λe=>by have:=h.lt;omega
 have l:=aa (Z.below N.out);have x1:=l.c;have K:=aa (D.trans (N.mono D.size));clear H x0;go_wp2_with fail;refine(pF v P (h.on K.out) _).mono ?_;rintro e y ⟨rfl,I⟩;have a:=aa (K.trans (I.mono K.size));have m:=aa (l.below I);have O:=aa (HV.below I);have x2:=m.c;clear I x1;go_wp2_with fail;refine(pF y P (h.on a.out) _).mono ?_;rintro e z ⟨rfl,J⟩;have c:=aa (a.trans (J.mono a.size));have o:=aa (m.below J);have Q:=aa (O.below J);have x3:=o.c;clear J x2;go_wp2_with fail;refine(F7 z P (h.on c.out)).mono ?_;rintro e r ⟨G,b,rfl,s,i,B⟩;obtain⟨X,jn,a5,jt,jl,jr,ja,a4,i⟩:=i;have L:=aa ((Chg.of_below (S:=(·=P)) c.out).then G);have R:=aa (o.chg G A);have j:=aa (Q.chg G V);have E:=aa i;have F:=aa B;have g:=aa (ay c.size s);have x4:=R.c;have j0:r.cell? ⟨b,0,none⟩=some (.int .i64 X):=(ae i 0).trans rfl;have x:=ab i;have a3:=aH x4;have a2:=ab j.out;obtain⟨c0,c1,c2⟩:=j.c;clear G i B s x3 hv
 by_cases hk1:k=1
 ·subst hk1
  by_cases hj2:X=2
  ·subst hj2
   go_wp2_with fail;refine(o9 _ P (F.on (((ai r.heap.size r).alloc (ag _) _).alloc (by simp) _)) _).mono ?_;rintro e q ⟨rfl,C⟩;have p:Below r.heap.size r q:=(((ai r.heap.size r).alloc (ag _) (.cells #[pB b] 261)).alloc (by simp) _).trans (C.mono (by simp;omega));have M:=aa p;have U:=aa ((((ai (r.alloc (.cells #[pB b] 261)).heap.size (r.alloc (.cells #[pB b] 261))).alloc (ag _) (.cells #[.string ⟨#[40]⟩] 9))).trans (C.mono (by simp)));have x5:q.cell? ⟨r.heap.size,0,none⟩=some (pB b):=(One.below (show One (r.alloc (.cells #[pB b] 261)) r.heap.size (pB b) 261 from af _ _) U.out).c;clear C p;go_wp2_with fail;go_ret;exact⟨L.on M.out,b,rfl,g.out,⟨_,_,_,_,_,_,_,_,by rw[M.block _ (ab E.out)];exact E.out⟩,F.on M.out⟩
  ·have C:(X==2)=false:=by simpa using hj2
   clear hj2;go_wp2_with fail;go_ret;exact⟨L.alloc _,b,rfl,g.out,⟨_,_,_,_,_,_,_,_,by rw[aK _ _ _ x];exact E.out⟩,F.on (az)⟩
 ·have C:(k==1)=false:=by simpa using hk1
  clear hk1;go_wp2_with fail;go_ret;exact⟨L.alloc _,b,rfl,g.out,⟨_,_,_,_,_,_,_,_,by rw[aK _ _ _ x];exact E.out⟩,F.on (az)⟩
theorem zG.on (h:zG w b) (hb:Below w.heap.size w w'):zG w' b:=by
 obtain⟨k,n,nm,t,l,r,a,c,h⟩:=h;exact⟨k,n,nm,t,l,r,a,c,by rw[hb.block _ (ab h)];exact h⟩
theorem Fa (w:World) (P:Nat) (h:PB w P):Calls prog 171 #[pB P] w (Ek P w):=by
 go_enter func171,ntmps171
 go_wp2_with fail;refine(Dn w P h).mono ?_;rintro e r ⟨g,b,rfl,d,i,a⟩;have k:=aa g;have l:=aa i;have f:=aa a;clear g i a;go_wp2_with fail;refine bC 1 ?_;rw[aO];go_wp2_with fail;refine(o9 _ P (f.on ((ai r.heap.size r).alloc (ag _) _)) _).mono ?_;rintro e q ⟨rfl,j⟩;have c:=aa (((ai r.heap.size r).alloc (ag _) _).trans (j.mono (by simp)));clear j;go_wp2_with fail;go_ret;exact⟨k.on c.out,b,rfl,d,l.on c.out,f.on c.out⟩
theorem yG (w:World) (P:Nat) (h:PB w P):Calls prog 212 #[pB P] w (Ek P w):=by
 have p:=(ai w.heap.size w).alloc (ag _) (.cells #[pB P] 51);obtain⟨d,f,k,t,n,D,M,I⟩:=(h.on p).ex;have A:=aa D;have j:=aa p;generalize y:w.alloc (.cells #[pB P] 51)=w1 at A j;have B:=aa (show One w1 w.heap.size (pB P) 51 by rw[<- y];exact af _ _);have K:=B.c;clear D p
 go_enter func212,ntmps212
 go_wp2_with fail;refine(cC w1 P _ _ k t n A.out).mono ?_;rintro e u ⟨rfl,x⟩;have o:=aa (x.alloc x.size (.cells #[.int .i64 k,.string ⟨t.toArray⟩,.int .i64 n] 59));generalize J:u.alloc (.cells #[.int .i64 k,.string ⟨t.toArray⟩,.int .i64 n] 59)=v at o;have c:=aa (B.below o.out);have L:=c.c;have z:=aa (j.trans (o.mono j.size));clear x K;go_wp2_with fail;have a:Below w.heap.size w (v.alloc (.cells #[.string ⟨#[33]⟩,.string ⟨#[45]⟩] 9)):=z.alloc z.size _;refine(o9 _ P (h.on a) _).mono ?_;rintro e q ⟨rfl,s⟩;have m:=aa (a.trans (s.mono a.size));have N:q.cell? ⟨w.heap.size,0,none⟩=some (pB P):=((c.below ((ai v.heap.size v).alloc (ag _) _)).below s).c;clear s a L J;go_wp2_with fail;refine(Fa q P (h.on m.out)).mono ?_;rintro e r ⟨C,b,rfl,g,E,i⟩;have F:=aa ((Chg.of_below (S:=(·=P)) m.out).then C);have G:=aa E;have H:=aa i;have l:=aa (ay m.size g);clear C E i g;go_wp2_with fail;go_ret;exact⟨F.out,b,rfl,l.out,G.out,H.out⟩
theorem tB (w:World) (P:Nat) (h:PB w P) (c:Int):Calls prog 169 #[pB P,.int .i64 c] w (Ek P w):=by
 go_enter func169,ntmps169
 go_wp2_with fail;refine(yG w P h).mono ?_;rintro e r ⟨j,b,rfl,i,m,a⟩;obtain⟨d,f,k,t,n,l,u,s⟩:=a.ex;have g:=l.c2;have o:=aa j;have p:=aa m;have q:=aa a;clear j m a l;go_wp2_with fail;refine bC 1 ?_;rw[aO];go_wp2_with fail;refine(fk r P _ g true rfl).mono ?_;rintro e z ⟨rfl,rfl⟩;go_wp2_with fail;go_ret;exact⟨o.out,b,rfl,i,p.out,q.out⟩
def iR (P:Nat) (f:Nat->Option (Ex×PS)) (m dd:Nat) (w:World) (e:Ending) (w':World):Prop:=
 Chg (·=P) w w'/\∃b,e=.returned (pB b)/\w.heap.size<=b /\
  ((∃x s',Out f (some (x,s'))/\s'.ts.length<=m/\s'.d=dd/\bK w' (Ge w.heap.size) b x/\PG w' P s')\/(Out f none/\zG w' b/\PB w' P))
def fH (N:Nat):Prop:=∀w P s c,PG w P s->s.ts.length+1<=N->Calls prog 169 #[pB P,.int .i64 c] w (iR P (λn=>cZ n c s) (s.ts.length-1) s.d w)
theorem Out.fst {α β:Type} {f:Nat->Option α} {g:α->Option β} {r:α} {q:β} (h:Out f (some r)) (hg:g r=some q):Out (λn=>(f n).bind g) (some q):=by
 obtain⟨n,hn⟩:=h;exact⟨n,by show(f n).bind g=_;rw[hn];exact hg⟩
theorem Out.none1 {α β:Type} {f:Nat->Option α} {g:Nat->α->Option β} (h:Out f none):Out (λn=>(f n).bind (g n)) none:=λn=>by
 show(f n).bind (g n)=none;rw[show f n=none from h n];rfl
theorem Out.none2 {α β:Type} {f:Nat->Option α} {g:Nat->α->Option β} {r:α} (hm:ld f) (h:Out f (some r)) (hg:∀n,g n r=none):Out (λn=>(f n).bind (g n)) none:=λn=>by
 show(f n).bind (g n)=none;cases hf:f n with
 | none=>rfl
 | some q =>
  obtain⟨k,a⟩:=h;have:=hm.det a hf;subst this;exact hg n
theorem Out.some2 {α β:Type} {f:Nat->Option α} {g:Nat->α->Option β} {r:α} {q:β} (hm:ld f) (h:Out f (some r)) (hgm:ld λn=>g n r) (hg:Out (λn=>g n r) (some q)):Out (λn=>(f n).bind (g n)) (some q):=by
 obtain⟨n,hn⟩:=h;obtain⟨k,a⟩:=hg;refine⟨n+k,?_⟩;show(f (n+k)).bind (g (n+k))=_;rw[hm.le (show n<=n+k by omega) hn];exact hgm.le (show k<=n+k by omega) a
theorem Out.up {α:Type} {f g:Nat->Option α} {o:Option α} (h:Out f o) (h0:g 0=none) (hs:∀n,g (n+1)=f n):Out g o:=by
 cases o with
 | none=>intro n;cases n with
  | zero=>exact h0
  | succ n=>rw[hs];exact h n
 | some r=>obtain⟨n,hn⟩:=h;exact⟨n+1,by rw[hs];exact hn⟩
def JW (wd:Tx) (s1:PS) (n:Nat):Option (Ex×PS):=(cZ n 1 s1).bind λr=>(bP wd r.2).bind λs2=>some (r.1,s2)
def Ln (X:Nat) (u:World) (x:Ex):Prop:=∃b,One u X (pB b) 261/\bK u (Ge (X+1)) b x
def JH (X:Nat) (u:World):Prop:=∃b,One u X (pB b) 261/\X+1<=b/\zG u b
theorem One.setOther {T:TypeId} (h:One w X v T) (hp:p.block≠X) (u:Value):One (w.setCell p u) X v T:=by
 unfold One at *;rw[aM _ _ _ _ (iq hp)];exact h
theorem zG.setOther (h:zG w X) (hp:p.block≠X) (u:Value):zG (w.setCell p u) X:=by
 obtain⟨k,n,nm,t,l,r,a,b,h⟩:=h;exact⟨k,n,nm,t,l,r,a,b,by rw[aM _ _ _ _ (iq hp)];exact h⟩
theorem bA.setCell (w:World) (hp:p.block<lo) (v:Value):bA lo w (w.setCell p v):=λk o hk ho=>by
 rw[aM _ _ _ _ (by omega)];exact ho
theorem bK.mem {x:Ex} (h:bK w A b x):A b:=by
 cases x<;>(rw[bK]at h;exact h.1)
theorem bK.ge {x:Ex} (h:bK w (Ge lo) b x):lo<=b:=h.mem
theorem bK.junk {x:Ex} (h:bK w A b x):zG w b:=by
 cases x<;>rw[bK]at h
 ·obtain⟨_,a,h⟩:=h;exact⟨_,_,_,_,_,_,_,_,h⟩
 ·obtain⟨_,a,h⟩:=h;exact⟨_,_,_,_,_,_,_,_,h⟩
 ·obtain⟨_,a,_,h,_⟩:=h;exact⟨_,_,_,_,_,_,_,_,h⟩
 ·obtain⟨_,a,_,_,h,_⟩:=h;exact⟨_,_,_,_,_,_,_,_,h⟩
 ·obtain⟨_,a,_,_,h,_⟩:=h;exact⟨_,_,_,_,_,_,_,_,h⟩
 ·obtain⟨_,a,_,_,h,_⟩:=h;exact⟨_,_,_,_,_,_,_,_,h⟩
 ·obtain⟨_,a,_,_,h,_⟩:=h;exact⟨_,_,_,_,_,_,_,_,h⟩
 ·obtain⟨_,a,_,h,_⟩:=h;exact⟨_,_,_,_,_,_,_,_,h⟩
 ·obtain⟨_,a,h⟩:=h;exact⟨_,_,_,_,_,_,_,_,h⟩
theorem zG.lt (h:zG w b):b<w.heap.size:=by obtain⟨k,n,nm,t,l,r,a,c,h⟩:=h;exact ab h
theorem zN (N:Nat) (hE:fH N) (u:World) (P B T X:Nat) (v0:Value) (wd:Tx) (s1:PS) (h:PG u P s1) (hN:s1.ts.length+1<=N) (hB:One u B (pB P) 51) (hT:One u T (.string ⟨wd.toArray⟩) 9) (hX:One u X v0 261) (hBX:B≠X) (hTX:T≠X) (hBP:B≠P) (hTP:T≠P) (hXP:P<X):
  Calls prog 249 #[pB B,pB X,pB T] u (pC (λk=>k=P\/k=X) P (JW wd s1) s1.ts.length s1.d (Ln X) (JH X) u):=by
 have O:=hB.c;have Q:=hX.c
 go_enter func249,ntmps249
 go_wp2_with fail;refine(hE u P s1 1 h hN).mono ?_;rintro e v ⟨r,b,rfl,K,o⟩;have R:=aa r;have G:=aa (hB.chg r hBP);have I:=aa (hT.chg r hTP);have a:=aa (hX.chg r (by omega));have m:=aa (ay (show X+1<=u.heap.size from ab hX) K);have Z:=a.c;have V:=dm a.out;have U:(v.setCell ⟨X,0,none⟩ (pB b)).cell? ⟨B,0,none⟩=some (pB P):=(G.setOther (p:=⟨X,0,none⟩) (iq hBX) _).c;have Y:(v.setCell ⟨X,0,none⟩ (pB b)).cell? ⟨T,0,none⟩=some (.string ⟨wd.toArray⟩):=(I.setOther (p:=⟨X,0,none⟩) (iq hTX) _).c;have l:=aa (Chg.setCell (S:=λk=>k=P\/k=X) (p:=⟨X,0,none⟩) (r.mono λi _ q=>Or.inl q) (λ_=>.inr rfl) (pB b));clear r O Q;rcases o with⟨x,s,C,W,hd,y,E⟩|⟨C,L,D⟩
 ·have F:=aa C
  have f:=aa (E.setOther a.out (by decide) hXP 0 (pB b));have g:=aa (show One (v.setCell ⟨X,0,none⟩ (pB b)) X (pB b) 261 from iw a.out);have t:=aa (bK.on (bA.setCell v (p:=⟨X,0,none⟩) (show X<u.heap.size from ab hX) (pB b)) y);have J:=aa (show X<u.heap.size from ab hX);clear C y E;cases hw:isW wd s with
  | true =>
   have w:=aa hw;clear hw;go_wp2_with fail;refine(kG _ P s f.out wd w.out).mono ?_;rintro e z ⟨rfl,j,A⟩;have c:=aa j;have H:=aa A;clear j A;go_wp2_with fail;go_end0;refine⟨rfl,l.trans c.out λi _ q=>Or.inl q,.inl ⟨x,aS s,F.fst (by show(bP wd s).bind _=_;unfold bP;rw[ax w.out];rfl),?_,hd,⟨b,g.chg c.out (by omega),?_⟩,H.out⟩⟩
   ·unfold aS;split<;>simp<;>omega
   ·exact(bK.on (c.same λk hk e=>by subst e;have:=J.out;have:=h.lt;omega) t.out).lower (by have:=J.out;omega)
  | false =>
   have w:=aa hw;clear hw;go_wp2_with fail;refine(qI _ P s f.out wd w.out).mono ?_;rintro e z ⟨rfl,j,A⟩;have c:=aa j;have H:=aa A;clear j A;go_wp2_with fail;go_end0;refine⟨rfl,l.trans c.out λi _ q=>Or.inl q,.inr ⟨Out.none2 (lJ 1 s1) F.out λn=>by show(bP wd s).bind _=none;unfold bP;rw[ap (by rw[w.out];decide)];rfl,⟨b,g.chg c.out (by omega),m.out,?_⟩,H.out⟩⟩;exact(bK.on (c.same λk hk e=>by subst e;have:=J.out;have:=h.lt;omega) t.out).junk
 ·have F:=aa C
  have f:=aa (D.setOther a.out (by decide) (by decide) hXP 0 (pB b));have g:=aa (show One (v.setCell ⟨X,0,none⟩ (pB b)) X (pB b) 261 from iw a.out);have M:=aa (L.setOther (p:=⟨X,0,none⟩) (show X≠b by have:=m.out;omega) (pB b));clear C L D;go_wp2_with fail;refine(iJ _ P f.out wd).mono ?_;rintro e z ⟨rfl,j⟩;have c:=aa j;clear j;go_wp2_with fail;go_end0;exact⟨rfl,l.on c.out,.inr ⟨F.none1,⟨b,g.below c.out,m.out,M.on c.out⟩,f.on c.out⟩⟩
end Go.Proofs.YtbeaaimcpkogcaaGreatDoor
