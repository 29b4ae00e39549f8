/- Lemmas on the way to the claim. -/
import Derived.Test.YtbeaaimcpkogcaaGreatDoorM33
import Derived.Test.YtbeaaimcpkogcaaGreatDoorM49
set_option linter.unusedSimpArgs false
set_option linter.unusedVariables false
set_option maxHeartbeats 4000000
set_option maxRecDepth 100000
namespace Go.Proofs.YtbeaaimcpkogcaaGreatDoor
open Go.Proofs.Tryz Go.RowKit
variable {u w w0 y:World} {L ws:List Int} {K S j:Nat} {iv v v':Value} {ls:List (Int×Int)} {W:Int}
def o8 (ws:List Int):List Value:=(ws.map dP++[[]]).map λx:List UInt8=>.string ⟨x.toArray⟩
structure AsS (w0 w:World) (ws:List Int) (K S j:Nat) (iv:Value) (ls:List (Int×Int)):Prop where
 bel:Below w0.heap.size w0 w
 k:One w K iv 111
 fst:ls.map (·.1)=ws.take j
 own:w.ownsRow (K+1) 101 8 iv ls.length (tk ls)
 s:w.heap[S]?=some (.cells (o8 ws).toArray 9 (0,0))
 le:w0.heap.size<=K
 ne:S≠K
theorem AsS.below (h:AsS w0 w ws K S j iv ls) (hb:Below w.heap.size w u):AsS w0 u ws K S j iv ls:=
 ⟨h.bel.trans (hb.mono h.bel.size),h.k.below hb,h.fst,du h.own (Chg.of_below (S:=λ_=>False) hb) λ_ _=>id,(hb.block S (ab h.s)).trans h.s,h.le,h.ne⟩
theorem AsS.take {q:World} {iv':Value} {line:Int} (h:AsS w0 q ws K S j iv ls) (hW:ws[j]?=some W) (hc:Chg (λk=>k=K\/iv.ownBlock=some k) q y) (hk:One y K iv' 111) (ho:y.ownsRow (K+1) 101 8 iv' (ls.length+1) (tk (ls++[(W,line)]))):AsS w0 y ws K S (j+1) iv' (ls++[(W,line)]):=by
 have d:=h.le;have g:=h.bel.size;have b:=cG h.own;refine⟨h.bel.trans ⟨hc.os,hc.tape,hc.output,hc.size,λk hk=>hc.block k (by omega) λe=>?_⟩,hk,?_,by rw[ac];exact ho,(hc.block S (ab h.s) λe=>?_).trans h.s,h.le,h.ne⟩
 ·rcases e with e|e
  ·omega
  ·have:=b k e;omega
 ·rw[dT,h.fst,bT,hW];rfl
 ·rcases e with e|e
  ·exact h.ne e
  ·obtain⟨c,f,a⟩:=bG h.own e
   rw[h.s]at a;injection a with a;injection a with _ a _;cases a
theorem jN (w:World) (n:Nat):Below w.heap.size w (w.drewN n):=⟨rfl,rfl,rfl,ag _,λ_ _=>rfl⟩
structure A2 (w0 w:World) (ws:List Int) (K:Nat) (ls:List (Int×Int)) (a:Option Addr) (cap j:Nat) (v:Value):Prop where
 bel:Below w0.heap.size w0 w
 its:w.ownsRow (K+1) 101 8 (.slice a ls.length cap) ls.length (tk ls)
 out:w.ownsRow w0.heap.size 40 1 v j (gf (ws.take j))
theorem C3:∀(ls:List (Int×Int)) (j:Nat) (p:Int×Int),ls[j]?=some p->∀i,i<8->(tk ls)[j*8+i]?=(itA p.1 p.2)[i]?
 | [],j,p,h,i,hi=>by simp at h
 | q::ls,0,p,h,i,hi=>by
  simp at h;subst h;have e:tk (q::ls)=(itA q.1 q.2).toList++tk ls:=by unfold tk;rw[gO]
  rw[e,Nat.zero_mul,cA,List.getElem?_append_left (by show i<8;exact hi)];simp
 | q::ls,j+1,p,h,i,hi=>by
  have b:=C3 ls j p (by simpa using h) i hi;have e:tk (q::ls)=(itA q.1 q.2).toList++tk ls:=by unfold tk;rw[gO]
  have a:(itA q.1 q.2).toList.length=8:=rfl;rw[e,fd (by rw[a];omega),a,<- b];congr 1;omega
theorem C8:(Tryz.prog.info? 40).map (λi=>(i.zero,i.size,i.bytes))=some (some (.int .u32 0),1,4):=by kernel_rfl
theorem A2.step {w1:World} {a:Option Addr} {cap:Nat} {o1 o2:Obj} (h:A2 w0 y ws K ls a cap j v) (hW:ws[j]?=some W)
 (hg:((y.alloc o1).alloc o2).grownBy w1 v.ownBlock) (ho:w1.ownsRow w0.heap.size 40 1 v' (j+1) (gf (ws.take j)++[.int .u32 W])):A2 w0 w1 ws K ls a cap (j+1) v':=by
 have c:Chg (λk=>v.ownBlock=some k) y w1:=(((Chg.refl _ y).alloc o1).alloc o2).grown hg λk hk _=>hk;have d:=cG h.out;have m:=h.bel.size;refine⟨h.bel.trans ⟨c.os,c.tape,c.output,c.size,λk hk=>c.block k (by omega) λe=>by have:=d k e;omega⟩,du h.its c λg hg2 e=>?_,?_⟩
 ·obtain⟨c1,i,f⟩:=bG h.its hg2
  obtain⟨c2,l,b⟩:=bG h.out e;rw[f]at b;injection b with b;injection b with _ b _;cases b
 ·rw[bT,hW]
  have e:gf (ws.take j++(some W).toList)=gf (ws.take j)++[.int .u32 W]:=by unfold gf;simp
  rw[e];exact ho
theorem JF (w:World) (ws:List Int) (hr0:∀x∈ws,0<=x/\x<4294967296) (hn:ws.length<=1000) (hL:Lay w) (hpow:Pow w):
  Calls prog 12 #[.string ⟨(ch (ws.map dP)).toArray⟩] w λe w'=>Below w.heap.size w w'/\∃v,e=.returned (.tuple #[v,.nilIface])/\w'.ownsRow w.heap.size 40 1 v ws.length (gf ws):=by
 have J:=uS ws hr0;have a8:∀l∈ws.map dP,(10:UInt8) ∉ l:=λl hl hm=>by
  obtain⟨x,hx,rfl⟩:=bM.1 hl;exact(rF x 10 hm).1 rfl
 have a1:=xf (ws.map dP) a8;obtain⟨m,hm⟩:=hL.mx;have G:=aa λu (hu:Below w.heap.size w u)=>Tryz.strings_Split ⟨(ch (ws.map dP)).toArray⟩ ⟨#[10]⟩ m u (by show(ch (ws.map dP)).toArray.size<_;simp;omega) ((hu.cell (aH hm)).trans hm) (by decide);have ak:=aa J;have a0:=@run_makeMap prog;have ap:(⟨(ch (ws.map dP)).toArray⟩:ByteArray).size<=31000:=by show(ch (ws.map dP)).toArray.size<=_;simp;omega
 have HM:=aa hm;generalize(⟨(ch (ws.map dP)).toArray⟩:ByteArray)=T at *;have d0:decide (32768<(T.size:Int))=false:=by simp;omega
 have HL:=aa hL;have HP:=aa hpow;clear J a8 hm hL hpow
 go_enter func12,ntmps12
 go_wp2_with fail;have I:Below w.heap.size w (((w.alloc (.map #[] 0)).alloc (.cells #[.map (some w.heap.size)] 110)).alloc (.cells #[.slice none 0 0] 111)):=((az).alloc (by rw[ah];omega) _).alloc (by rw[ah,ah];omega) _;have Q:One (((w.alloc (.map #[] 0)).alloc (.cells #[.map (some w.heap.size)] 110)).alloc (.cells #[.slice none 0 0] 111)) (w.heap.size+1+1) (.slice none 0 0) 111:=by
  have:=af ((w.alloc (.map #[] 0)).alloc (.cells #[.map (some w.heap.size)] 110)) (.cells #[.slice none 0 0] 111);rw[ah,ah]at this;exact this
 have S:(((w.alloc (.map #[] 0)).alloc (.cells #[.map (some w.heap.size)] 110)).alloc (.cells #[.slice none 0 0] 111)).heap.size=w.heap.size+1+1+1:=by rw[ah,ah,ah]
 have H:Hid (Calls prog 46 #[.string T,.string ⟨#[10]⟩] (((w.alloc (.map #[] 0)).alloc (.cells #[.map (some w.heap.size)] 110)).alloc (.cells #[.slice none 0 0] 111)) λe w'=>e=.returned (.slice (some ⟨w.heap.size+1+1+1,0,none⟩) (ws.length+1) (ws.length+1))/\w'=(((w.alloc (.map #[] 0)).alloc (.cells #[.map (some w.heap.size)] 110)).alloc (.cells #[.slice none 0 0] 111)).alloc (.cells (o8 ws).toArray 9)):=by
  have h:=G.out _ I;rw[a1.2,a1.1,S,be,List.map_map]at h;exact h
 generalize(((w.alloc (.map #[] 0)).alloc (.cells #[.map (some w.heap.size)] 110)).alloc (.cells #[.slice none 0 0] 111))=a at I Q S H ⊢;have r:=aa (show AsS w (a.alloc (.cells (o8 ws).toArray 9)) ws (w.heap.size+1+1) (w.heap.size+1+1+1) 0 (.slice none 0 0) [] from
  ⟨I.alloc I.size _,(dF a _ (ab Q)).trans Q,by rw[bO];rfl,bq _ _ _ _,by rw[<- S];exact af _ _,by omega,by omega⟩)
 clear I Q S G a1 a0;refine H.mono ?_;rintro e z ⟨rfl,rfl⟩;generalize a.alloc (.cells (o8 ws).toArray 9)=z at r ⊢;obtain⟨K,hK⟩:∃K,w.heap.size+1+1=K:=⟨_,rfl⟩;have HK:=aa hK;rw[hK]at r ⊢;clear hK H;go_wp2_with fail
 go_loopw [26] (λs26 wr=>∃j:Nat,s26=.int .i64 j/\j<=ws.length+1/\Hid (∃O d,AsS w wr ws K (K+1) j O d)) (λs26 _=>ws.length+1-(intOf s26).toNat)
 case atStart=>exact⟨0,rfl,aV _,aa ⟨_,_,r.out⟩⟩
 case round =>
  clear r
  rename World=>wr
  obtain⟨j,rfl,hj,F⟩:=hrel
  by_cases hlt:j<ws.length+1
  ·have D:decide ((j:Int)<(ws.length:Int)+1)=true:=by simp;omega
   obtain⟨O,d,o⟩:=F.out;have J:(o8 ws).length=ws.length+1:=by unfold o8;simp
   have R:wr.cell? ⟨4,0,none⟩=some (.int .i64 m):=(o.bel.cell (p:=⟨4,0,none⟩) (aH HM.out)).trans HM.out
   by_cases hj2:j<ws.length
   ·obtain⟨W,Y⟩:∃W,ws[j]?=some W:=⟨_,aw hj2⟩
    have t:=hr0 W (aJ Y);have B:wr.cell? ⟨K+1,j,none⟩=some (.string ⟨(dP W).toArray⟩):=by
     rw[gN wr (K+1) j _ _ _ o.s];unfold o8;rw[List.getElem?_toArray,aG,List.getElem?_append_left (by simpa using hj2),aG,Y];rfl
    have ae:=lY W t.1 t.2;have U:=G1 59 (dP W) (λh=>(rF W 59 h).2 rfl);have X:=aa (Tryz.strings_Cut ⟨(dP W).toArray⟩ ⟨#[59]⟩ m wr (by show(dP W).toArray.size<_;simp;omega) R);rw[show(⟨(dP W).toArray⟩:ByteArray).data.toList=dP W from rfl,show(⟨#[59]⟩:ByteArray).data.toList=[59] from rfl,U]at X;have M:=aa o;have G:=aa λu=>rH u W t.1 t.2;have HT:=aa λq v (hb:Below w.heap.size w q) (hv:Ba q v (dJ W)) (ha:AsS w q ws K (K+1) j O d)=>C4 q v O W (j:Int) K (w.heap.size+1) (K+1) d t.1 t.2 (HL.tab.below hb) (eE HP.out hb) hv ha.k ha.own (by have:=ab ha.k;omega) (cI K) (by have:=aB List.length ha.fst;simp at this;omega);have HW:=aa Y;clear F o t R ae U Y;generalize(⟨(dP W).toArray⟩:ByteArray)=s at *;go_wp2_with fail;refine X.mono ?_;rintro e q0 ⟨rfl,k,rfl⟩;go_wp2_with fail;refine(G.out _).mono ?_;rintro e q ⟨hq,v,rfl,hv⟩;have a9:=(jN wr k).trans hq;have b:=aa (M.below a9);have a4:=aa (HT.out q v b.bel hv b.out);obtain⟨g,c,rfl,N,hg,_⟩:=hv;have aq:=(nj W).1;generalize(dJ W).length=nw at *;have d1:decide (0<(nw:Int))=true:=by simp;omega
    clear hq a9 G HT X M B;go_wp2_with fail;refine a4.mono ?_;rintro e y ⟨rfl,a6,ar,hk,ho⟩;have f:=aa (show∃O d,AsS w y ws K (K+1) (j+1) O d from⟨_,_,b.take HW.out a6 hk ho⟩);clear a6 hk ho a4 b;go_wp2_with fail;exact⟨⟨j+1,by simp,by omega,f⟩,by simp[intOf];omega⟩
   ·obtain rfl:j=ws.length:=by omega
    have B:wr.cell? ⟨K+1,ws.length,none⟩=some (.string ⟨#[]⟩):=by
     rw[gN wr (K+1) ws.length _ _ _ o.s];unfold o8;rw[List.getElem?_toArray,aG,fd (by simp)];simp
    have X:=aa (Tryz.strings_Cut ⟨#[]⟩ ⟨#[59]⟩ m wr (by decide) R);rw[show(⟨#[]⟩:ByteArray).data.toList=[] from rfl,show(⟨#[59]⟩:ByteArray).data.toList=[59] from rfl,G1 59 [] (by simp)]at X;have M:=aa o;have C:=aa (show d.map (·.1)=ws.take (ws.length+1) by rw[o.fst,cg,cH (by omega)]);clear F o R;go_wp2_with fail;refine X.mono ?_;rintro e q0 ⟨rfl,k,rfl⟩;go_wp2_with fail;refine(zZ _).mono ?_;rintro e q ⟨hq,A,rfl⟩;have b:=aa (M.below ((jN wr k).trans hq));clear hq X M B;go_wp2_with fail;have f:=aa (show∃O d,AsS w q ws K (K+1) (ws.length+1) O d from⟨O,d,b.bel,b.k,C.out,b.own,b.s,b.le,b.ne⟩);exact⟨⟨ws.length+1,by simp,by omega,f⟩,by simp[intOf]⟩
  ·have P:j=ws.length+1:=by omega
   have D:decide ((j:Int)<(ws.length:Int)+1)=false:=by simp;omega
   obtain⟨O,d,o⟩:=F.out;have V:d.map (·.1)=ws:=by rw[o.fst,cH (by omega)]
   obtain⟨a,mm,a5,rfl⟩:=cc o.own;have a0:=sR o.own rfl;subst a0;have kc:=o.k.c;have lK:=ab o.k;have M:=aa o;have C:=aa V;clear F o V;go_wp2_with fail;have r:=aa (show A2 w wr ws K d a a5 0 (.slice none 0 0) from⟨M.bel,M.own,by rw[bO];exact bq _ _ _ _⟩);have a7:d.length=ws.length:=by rw[<- C.out,be]
   have a2:=aa a7;have am:=aa (show w.heap.size<=K from M.le);clear M kc lK a7 P D hj hlt
   go_loopw [11,52] (λs11 s52 wr=>∃j:Nat,s52=.int .i64 j/\j<=d.length/\Hid (A2 w wr ws K d a a5 j s11)) (λ_ s52 _=>d.length-(intOf s52).toNat)
   case atStart=>exact⟨0,rfl,aV _,r⟩
   case round =>
    clear r
    rename World=>y
    obtain⟨j,rfl,hj,F⟩:=hrel
    by_cases hlt:j<d.length
    ·obtain⟨p,hp⟩:∃p,d[j]?=some p:=⟨_,aw hlt⟩
     obtain⟨W,n⟩:=p;have Y:ws[j]?=some W:=by rw[<- C.out,aG,hp];rfl
     have D:decide ((j:Int)<(d.length:Int))=true:=by simp;omega
     have Z:=F.out.its;rcases Z.2 with⟨_,h0⟩|⟨g,al,an,hv,_⟩
     ·omega
     injection hv with hv1 hv2 hv3;subst hv1 hv3;have N:∀i,i<8->y.cell? ⟨g,j*8+i,none⟩=(itA W n)[i]?:=λi hi=>by
      rw[Z.cellAt (j*8+i) (by omega)];exact C3 d j _ hp i hi
     have k0:y.cell? ⟨g,j*8,none⟩=some (.int .i64 (dO W)):=N 0 (by omega);have k1:y.cell? ⟨g,j*8+1,none⟩=some (.int .i64 (dA W)):=N 1 (by omega);have k2:y.cell? ⟨g,j*8+2,none⟩=some (.int .i64 (dB W)):=N 2 (by omega);have k3:y.cell? ⟨g,j*8+3,none⟩=some (.int .i64 (dC W)):=N 3 (by omega);have k4:y.cell? ⟨g,j*8+4,none⟩=some (.int .i64 (dM W)):=N 4 (by omega);have k5:y.cell? ⟨g,j*8+5,none⟩=some (.int .u32 W):=N 5 (by omega);have k6:y.cell? ⟨g,j*8+6,none⟩=some (.string ⟨#[]⟩):=N 6 (by omega);have k7:y.cell? ⟨g,j*8+7,none⟩=some (.int .i64 n):=N 7 (by omega);have HR:=F;obtain⟨i0,hi,ag,ai,aj⟩:=cX C8;have a3:Hid (∀k z,([.int .u32 W]:List Value)[k]?=some z->((y.alloc (.cells #[.int .i64 (dO W),.int .i64 (dA W),.int .i64 (dB W),.int .i64 (dC W),.int .i64 (dM W),.int .u32 W,.string ⟨#[]⟩,.int .i64 n] 101)).alloc (.cells #[.int .u32 W] 40)).cell? ((⟨y.heap.size+1,0,none⟩:Addr).add k)=some z):=by
      have:=eu (y.alloc (.cells #[.int .i64 (dO W),.int .i64 (dA W),.int .i64 (dB W),.int .i64 (dC W),.int .i64 (dM W),.int .u32 W,.string ⟨#[]⟩,.int .i64 n] 101)) [.int .u32 W] 40;rw[ah]at this;exact this
     have ac:w.heap.size<=((y.alloc (.cells #[.int .i64 (dO W),.int .i64 (dA W),.int .i64 (dB W),.int .i64 (dC W),.int .i64 (dM W),.int .u32 W,.string ⟨#[]⟩,.int .i64 n] 101)).alloc (.cells #[.int .u32 W] 40)).heap.size:=by
      have:=F.out.bel.size;rw[ah,ah];omega
     have ad:=aa Y;have ao:j<=1000:=by have:=a2.out;omega
     clear F Z N hp Y
     go_wp2_with (at_builtin;refine wpList_append_own _ rfl _ _ 34 rfl w.heap.size 40 i0 (.int .u32 0) 1 4 underlying34 hi ag ai aj rfl (by decide) _ _ _ rfl ((HR.out.out.alloc _).alloc _) ⟨y.heap.size+1,0,none⟩ 1 1 [.int .u32 W] rfl rfl a3.out (by simp[Value.oneCell']) (by unfold maxLen;omega) (by omega) ac ?_;intro v' w1 L E _;have f:=aa (HR.step ad.out E L);clear L E)
     exact⟨⟨j+1,by simp,hlt,f⟩,by simp[intOf];omega⟩
    ·have D:decide ((j:Int)<(d.length:Int))=false:=by simp;omega
     have P:j=ws.length:=by have:=a2.out;omega
     have ho:=F.out.out;rw[P,cg]at ho;have HO:=aa ho;have HB:=aa F.out.bel;clear F P ho;go_wp2_with fail;go_ret2;exact⟨HB.out,_,rfl,HO.out⟩
def Gi (w:World) (a:Option Addr) (len cap:Nat) (zs:List Int):Prop:=
 (a=none/\len=0/\cap=0/\zs=[])\/∃x:Addr,a=some x/\len<=cap/\cap<=maxLen/\zs.length=len/\(∀j z,zs[j]?=some z->w.cell? (x.add j)=some (.int .u32 z))/\∀z∈zs,0<=z/\z<4294967296
section
variable {P:Program}
theorem sG (w:World) (base:Nat) (t ty e:TypeId) (i:TypeInfo) (z:Value) (size bytes:Nat) (ht:P.underlying t=some (.slice e)) (hi:P.info? e=some i) (hz:i.zero=some z)
 (hsize:i.size=size) (hby:i.bytes=bytes) (hzs:z.cells.size=size) (hsz:0<size) (v:Value) (n:Nat) (xs:List Value) (hown:w.ownsRow base e size v n xs)
 (ad:Option Addr) (m c:Nat) (news:List Value) (hl:news.length=m*size) (hnews:∀j u,news[j]?=some u->∃a0,ad=some a0/\w.cell? (a0.add j)=some u) (h1:∀u∈news,u.oneCell'=true)
 (h63:n+m<=maxLen) (hbytes:(n+m)*bytes<=140737488355328) (hbase:base<=w.heap.size):
  ∃v' w',(Builtin.append_ #[t,t] ty #[v,.slice ad m c]).run P w=.ok v' w'/\w'.ownsRow base e size v' (n+m) (xs++news)/\w.grownBy w' v.ownBlock/\(v≠.slice none 0 0->v'≠.slice none 0 0):=by
 rcases Nat.eq_zero_or_pos m with rfl|r
 ·have d:news=[]:=List.eq_nil_of_length_eq_zero (by simpa using hl)
  subst d;refine⟨v,w,?_,by rw[bo];exact hown,⟨rfl,rfl,rfl,ag _,λ_ _ _=>rfl⟩,id⟩;rcases hown.2 with⟨rfl,rfl⟩|⟨g,f,k,rfl,_,_,a,_⟩
  ·cases ad<;>simp[Builtin.append_,run_underlying ht,sizeOf,typeInfo,hi,Builtin.lenOf,Builtin.firstCells,loadCells,loadCellsFrom,storeCells]
  ·cases ad<;>simp[Builtin.append_,run_underlying ht,sizeOf,typeInfo,hi,Builtin.lenOf,Builtin.firstCells,loadCells,loadCellsFrom,storeCells,a]
 ·obtain⟨u,s⟩:∃u,news[0]?=some u:=⟨_,aw (by rw[hl];exact Nat.mul_pos r hsz)⟩
  obtain⟨a0,rfl,_⟩:=hnews 0 u s;obtain⟨v',w',l,o,p,q⟩:=run_append_own (P:=P) w base t ty e i z size bytes ht hi hz hsize hby hzs hsz v n xs hown a0 m c news hl (λj y hj=>by
   obtain⟨b,e,h⟩:=hnews j y hj;injection e with e;subst e;exact h) h1 h63 hbytes hbase
  exact⟨v',w',l,o,p,λhv e=>hv (q.1 e).1⟩
theorem kX {ops:Array Oper} {rest:List Oper} {o:Oper} {a:Act} {Q:Exit->Act->World->Prop} (hgd:o.guard=none) (s x:Operand) (t:TypeId)
 (ho:o.op=.call { callee:=.builtin .append,args:=#[s,x],argTypes:=#[t,t] })
 (base:Nat) (e:TypeId) (i:TypeInfo) (z:Value) (size bytes:Nat) (ht:P.underlying t=some (.slice e)) (hi:P.info? e=some i) (hz:i.zero=some z)
 (hsize:i.size=size) (hby:i.bytes=bytes) (hzs:z.cells.size=size) (hsz:0<size) (v:Value) (n:Nat) (xs:List Value) (hs:a.eval s=v) (hown:w.ownsRow base e size v n xs)
 (ad:Option Addr) (m c:Nat) (news:List Value) (hx:a.eval x=.slice ad m c) (hl:news.length=m*size) (hnews:∀j u,news[j]?=some u->∃a0,ad=some a0/\w.cell? (a0.add j)=some u) (h1:∀u∈news,u.oneCell'=true)
 (h63:n+m<=maxLen) (hbytes:(n+m)*bytes<=140737488355328) (hbase:base<=w.heap.size)
 (h:∀v' w',w'.ownsRow base e size v' (n+m) (xs++news)->w.grownBy w' v.ownBlock->(v≠.slice none 0 0->v'≠.slice none 0 0)->wpList P ops Q rest (a.put o.dst v') w'):wpList P ops Q (o::rest) a w:=by
 refine wpList_plain hgd λK hK=>?_;obtain⟨v',w',g,b,d,f⟩:=sG (P:=P) w base t o.type e i z size bytes ht hi hz hsize hby hzs hsz v n xs hown ad m c news hl hnews h1 h63 hbytes hbase;unfold Oper.wp execOp;simp only[ho,resolve,invoke,builtin,jX,Sem.run_pure,vT,tM,dX,kW,hs,hx,g];exact hK _ _ (h v' w' b d f)
end
structure Hold (w0 w:World) (v:Value) (L:List Int):Prop where
 bel:Below w0.heap.size w0 w
 own:w.ownsRow w0.heap.size 40 1 v L.length (gf L)
 ne:v≠.slice none 0 0
 rng:∀x∈L,0<=x/\x<4294967296
theorem yt (L:List Int):∀u∈gf L,u.oneCell'=true:=λu hu=>by
 unfold gf at hu;obtain⟨x,_,rfl⟩:=bM.1 hu;rfl
theorem ED (a b:List Int):gf a++gf b=gf (a++b):=by unfold gf;simp
theorem Hold.below (h:Hold w0 w v L) (hb:Below w.heap.size w u):Hold w0 u v L:=
 ⟨h.bel.trans (hb.mono h.bel.size),du h.own (Chg.of_below (S:=λ_=>False) hb) λ_ _=>id,h.ne,h.rng⟩
theorem Hold.alloc (h:Hold w0 w v L) (o:Obj):Hold w0 (w.alloc o) v L:=h.below (az)
theorem Hold.shape (h:Hold w0 w v L):∃g c,v=.slice (some ⟨g,0,none⟩) L.length c:=by
 rcases h.own.2 with⟨e,_⟩|⟨g,a,b,e,_⟩
 ·exact absurd e h.ne
 ·exact⟨g,a,e⟩
theorem Hold.num {g c:Nat} (h:Hold w0 w (.slice (some ⟨g,0,none⟩) L.length c) L):px w g 0 L/\g<w.heap.size:=by
 refine⟨λj x hj=>?_,wT h.own rfl⟩;have a:=(aE.1 hj).1;rw[cA,h.own.cellAt j (by omega)];unfold gf;rw[aG,hj];rfl
theorem Hold.grow {w':World} {news:List Int} (h:Hold w0 w v L) (hg:w.grownBy w' v.ownBlock) (ho:w'.ownsRow w0.heap.size 40 1 v' (L.length+news.length) (gf L++gf news)) (hn:v≠.slice none 0 0->v'≠.slice none 0 0) (hr:∀x∈news,0<=x/\x<4294967296):Hold w0 w' v' (L++news):=by
 have a:Chg (λk=>v.ownBlock=some k) w w':=(Chg.refl _ w).grown hg λk hk _=>hk;have b:=cG h.own;have c:=h.bel.size;refine⟨h.bel.trans ⟨a.os,a.tape,a.output,a.size,λk hk=>a.block k (by omega) λe=>by have:=b k e;omega⟩,?_,hn h.ne,λx hx=>(aU.1 hx).elim (h.rng x) (hr x)⟩;rw[ac,<- ED];exact ho
end Go.Proofs.YtbeaaimcpkogcaaGreatDoor
