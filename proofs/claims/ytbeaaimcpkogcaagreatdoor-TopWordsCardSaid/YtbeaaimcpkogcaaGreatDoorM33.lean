/- Lemmas on the way to the claim. -/
import Derived.Test.YtbeaaimcpkogcaaGreatDoorM29
set_option linter.unusedSimpArgs false
set_option linter.unusedVariables false
set_option maxHeartbeats 4000000
set_option maxRecDepth 100000
namespace Go.Proofs.YtbeaaimcpkogcaaGreatDoor
open Go.Proofs.Tryz Go.RowKit
variable {w:World} {W:Nat} {t:List UInt8}
section
variable {P:Program}
theorem qo (w:World) (base:Nat) (t u ty e:TypeId) (i:TypeInfo) (ht:P.underlying t=some (.slice e)) (hu:P.underlying u=some .string) (hi:P.info? e=some i) (hz:i.zero=some (.int .u8 0)) (hsize:i.size=1) (hby:i.bytes=1)
 (v:Value) (n:Nat) (xs:List Value) (hown:w.ownsRow base e 1 v n xs) (s:ByteArray) (h63:n+s.size<=maxLen) (hbytes:n+s.size<=140737488355328) (hbase:base<=w.heap.size):
  ∃v' w',(Builtin.append_ #[t,u] ty #[v,.string s]).run P w=.ok v' w'/\w'.ownsRow base e 1 v' (n+s.size) (xs++Lib.strCells s)/\w.grownBy w' v.ownBlock/\(v'=.slice none 0 0<->v=.slice none 0 0/\s.size=0)/\(v'.ownBlock=v.ownBlock\/∀q,v'.ownBlock=some q->w.heap.size<=q):=by
 rcases hown.2 with⟨j,hn⟩|⟨g,a,d,j,r,z,A,x,y,h⟩
 ·have p:w.ownsRow w.heap.size e 1 v n xs:=⟨hown.1,.inl ⟨j,hn⟩⟩
  obtain⟨v',w',b,f,l,m⟩:=Lib.run_append_own_string (P:=P) w w.heap.size t u ty e i ht hu hi hz hsize hby v n xs p s h63 hbytes (ag _);obtain⟨E,F,o,B,C,D⟩:=Lib.run_append_own_string (P:=P) w base t u ty e i ht hu hi hz hsize hby v n xs hown s h63 hbytes hbase;rw[b]at o;injection o with e1 e2;subst e1 e2;exact⟨v',w',b,B,C,D,.inr λq hq=>cG f q hq⟩
 ·obtain⟨v',w',b,f,l,m⟩:=Lib.run_append_own_string (P:=P) w base t u ty e i ht hu hi hz hsize hby v n xs hown s h63 hbytes hbase
  refine⟨v',w',b,f,l,m,?_⟩;have k:xs.length=n:=by simpa using hown.1
  subst j
  by_cases hroom:n+s.size<=a
  ·have c:=Lib.run_append_room_string (P:=P) w t u ty e i ht hu hi hsize g n a d z s hroom (by omega)
   rw[b]at c;injection c with e1 e2;subst e1;exact .inl rfl
  ·have c:=Lib.run_append_grow_string (P:=P) w t u ty e i (.int .u8 0) ht hu hi hz ⟨g,0,none⟩ n a xs (by rw[hsize];simpa using k) (hown.cells (g:=g) rfl) s (by omega) (by simp only[maxLen]at h63;omega) (by rw[hby];exact growslice_fits (by omega) (by omega))
   rw[b]at c;injection c with e1 e2;subst e1;exact .inr λq hq=>by simp only[Value.ownBlock,aq]at hq;omega
theorem ng {ops:Array Oper} {rest:List Oper} {o:Oper} {a:Act} {Q:Exit->Act->World->Prop} (hgd:o.guard=none) (s x:Operand) (t u:TypeId)
 (ho:o.op=.call { callee:=.builtin .append,args:=#[s,x],argTypes:=#[t,u] })
 (base:Nat) (e:TypeId) (i:TypeInfo) (ht:P.underlying t=some (.slice e)) (hu:P.underlying u=some .string) (hi:P.info? e=some i) (hz:i.zero=some (.int .u8 0)) (hsize:i.size=1) (hby:i.bytes=1)
 (v:Value) (n:Nat) (xs:List Value) (hs:a.eval s=v) (hown:w.ownsRow base e 1 v n xs) (tx:ByteArray) (hx:a.eval x=.string tx) (h63:n+tx.size<=maxLen) (hbytes:n+tx.size<=140737488355328) (hbase:base<=w.heap.size)
 (h:∀v' w',w'.ownsRow base e 1 v' (n+tx.size) (xs++Lib.strCells tx)->w.grownBy w' v.ownBlock->(v'=.slice none 0 0<->v=.slice none 0 0/\tx.size=0)->(v'.ownBlock=v.ownBlock\/∀q,v'.ownBlock=some q->w.heap.size<=q)->wpList P ops Q rest (a.put o.dst v') w'):wpList P ops Q (o::rest) a w:=by
 refine wpList_plain hgd λK hK=>?_;obtain⟨v',w',g,b,c,d,f⟩:=qo (P:=P) w base t u o.type e i ht hu hi hz hsize hby v n xs hown tx h63 hbytes hbase;unfold Oper.wp execOp;simp only[ho,resolve,invoke,builtin,jX,Sem.run_pure,vT,tM,dX,kW,hs,hx,g];exact hK _ _ (h v' w' b c d f)
end
theorem AT:(Tryz.prog.info? 67).map (·.size)=some 2:=by kernel_rfl
theorem FW:liesAt prog Tryz.prog.depth 67 (2/Tryz.prog.cellsOf 67) 0 67 1=true:=by kernel_rfl
theorem DF (w:World) (W:Nat) (p v:Value) (hn:w.heap[W]?=some (.cells #[p,v] 67 (0,0))) (hp:p=(.pointer none:Value)\/p=pB W):
  Calls prog 101 #[pB W] w λe w'=>e=.returned (.tuple #[])/\w'.heap[W]?=some (.cells #[pB W,v] 67 (0,0))/\Chg (·=W) w w':=by
 obtain⟨j,b,c⟩:=Option.map_eq_some_iff.1 AT;have h:w.cell? ⟨W,0,none⟩=some p:=(ae hn 0).trans rfl;have a:w.shape? W=some (67,2):=by simp[World.shape?,hn]
 have i:=aD w W 0 _ _ hn;have d:=aa hn;clear hn;rcases hp with rfl|rfl
 ·have f:=aa (show Chg (·=W) w (w.setCell ⟨W,0,none⟩ (pB W)) from(Chg.refl (·=W) w).setCell (p:=⟨W,0,none⟩) (λ_=>rfl) _)
  have g:=aa (aA (j:=0) d.out (pB W))
  go_enter func101,ntmps101
  go_wp2
  rw[Lib.run_to_unsafe w ⟨W,0,none⟩ underlying64 underlying151 b (by rw[c];decide) a (by show 0<2;decide)];simp only[Result.andThen];rw[Oper.upon_value]
  go_wp2
  rw[run_callFunc_extern func158 (by kernel_rfl) (by kernel_rfl) (by kernel_rfl) (e:=Extern.AbiNoEscape.same) (by kernel_rfl)];rw[Lib.run_noEscape];simp only[Result.andThen];rw[Oper.upon_value]
  go_wp2
  rw[Lib.run_from_unsafe w ⟨W,0,none⟩ underlying151 underlying64 b a FW];simp only[Result.andThen];rw[Oper.upon_value]
  go_wp2
  go_end0;exact⟨rfl,g.out,f.out⟩
 ·go_enter func101,ntmps101
  go_wp2
  rw[Lib.run_neq_ptr_same w _ underlying64 b]
  go_wp2
  go_end0;exact⟨rfl,d.out,Chg.refl _ _⟩
structure DR (w:World) (W:Nat) (t:List UInt8):Prop where
 ex:∃p v,w.heap[W]?=some (.cells #[p,v] 67 (0,0))/\(p=(.pointer none:Value)\/p=pB W)/\w.ownsRow (W+1) 5 1 v t.length (Lib.strCells ⟨t.toArray⟩)/\(t=[]->v=(.slice none 0 0:Value))
theorem DR.lt (h:DR w W t):W<w.heap.size:=by obtain⟨p,x,hn,_⟩:=h.ex;exact ab hn
theorem DR.below {u:World} (h:DR w W t) (hb:Below w.heap.size w u):DR u W t:=by
 obtain⟨p,x,hn,c,b,a⟩:=h.ex;exact⟨p,x,(hb.block W (ab hn)).trans hn,c,du b (Chg.of_below (S:=λ_=>False) hb) λ_ _=>id,a⟩
theorem DE (w:World) (W:Nat) (t s:List UInt8) (h:DR w W t) (hl:(t++s).length<=100000000000):
  Calls prog 49 #[pB W,.string ⟨s.toArray⟩] w λe w'=>e=.returned (.tuple #[.int .i64 s.length,.nilIface])/\DR w' W (t++s)/\Below W w w':=by
 obtain⟨p,v,hn,R,F,K⟩:=h.ex;obtain⟨T,P,G,H,I⟩:=cX Tryz.info5P;have Q:=ab hn;have o:=aa (DF w W p v hn R);have M:=aa F;have L:=aa K;have y:=cG F;have C:=aa y;rw[ac]at hl;clear h hn F K y
 go_enter func49,ntmps49
 go_wp2_with fail;refine o.mono ?_;rintro e A ⟨rfl,m,f⟩;have c1:A.cell? ⟨W,1,none⟩=some v:=(ae m 1).trans rfl;have z:A.ownsRow (W+1) 5 1 v t.length (Lib.strCells ⟨t.toArray⟩):=du M.out f λq hq e=>by have:=C.out q hq;omega
 have S:=f.size;have B:=aa f;have u:=aa m;clear f m o
 go_wp2_with (at_builtin;refine ng rfl _ _ 65 9 rfl (W+1) 5 T underlying65 underlying9 P G H I _ _ _ rfl z ⟨s.toArray⟩ rfl ?c3 ?c4 ?c5 ?_)
 case c3=>show t.length+s.length<=_;unfold maxLen;omega
 case c4=>show t.length+s.length<=_;omega
 case c5=>omega
 intro X n b a g E;obtain⟨D,J,l,rfl⟩:=cc b;have x:Chg (λk=>W<=k) A n:=(Chg.refl _ A).grown a λk hk _=>Nat.le_of_succ_le (C.out k hk);have d:n.heap[W]?=_:=(a.block W (ab u.out) (λe=>by have:=C.out W e.symm;omega)).trans u.out;have U:n.cell? ⟨W,1,none⟩=some v:=(ae d 1).trans rfl;have V:=aD n W 1 _ _ d;have r:=aa (show DR (n.setCell ⟨W,1,none⟩ (.slice D J l)) W (t++s)/\Below W w (n.setCell ⟨W,1,none⟩ (.slice D J l)) by
  have c:Chg (λk=>W<=k) w (n.setCell ⟨W,1,none⟩ (.slice D J l)):=
   ((B.mono λi _ (e:i=W)=>(Nat.le_of_eq e.symm:W<=i)).then x).setCell (p:=⟨W,1,none⟩) (λ_=>ag W) _
  refine⟨⟨pB W,_,aA (j:=1) d _,.inr rfl,?_,λe=>?_⟩,⟨c.os,c.tape,c.output,c.size,λk hk=>c.block k (by omega) (by omega)⟩⟩
  ·rw[ac,<- yy]
   exact bg b (show W<W+1 from cI W) _
  ·obtain⟨N,O⟩:=List.append_eq_nil_iff.1 e
   exact g.2 ⟨L.out N,by subst O;rfl⟩)
 clear b a x d g E;go_wp2_with fail;go_ret2;exact⟨rfl,r.out⟩
theorem AS (w:World) (W:Nat) (t:List UInt8) (h:DR w W t):Calls prog 20 #[pB W] w λe w'=>e=.returned (.string ⟨t.toArray⟩)/\Below W w w':=by
 have b:Lib.IsBuilderF 67 5 W W (Lib.byteCells t) w:=by
  obtain⟨p,v,hn,i,f,d⟩:=h.ex;have c:v.ownBlock≠some W:=λe=>by have:=cG f W e;omega
  have g:(Lib.byteCells t).length=t.length:=Lib.byteCells_length t;have a:Lib.BuilderAtF 67 5 W W p (Lib.byteCells t) w:=⟨ag _,v,hn,by rw[g];exact World.ownsRowF_of (yN f (ft W)),c⟩;rcases i with rfl|rfl
  ·exact .inl a
  ·exact .inr a
 exact(Tryz.Builder_String_any_f W W t w b (Nat.le_of_lt h.lt)).mono λe w' ⟨d,_,b⟩=>⟨d,b⟩
theorem AB (l:List (List UInt8)) (x:List UInt8):ch (l++[x])=ch l++(x++[10]):=by unfold ch;simp
theorem uS (ws:List Int) (hr:∀x∈ws,0<=x/\x<4294967296):(ch (ws.map dP)).length<=31*ws.length:=by
 induction ws with
 | nil=>simp[ch]
 | cons a l ih =>
  have c:=lY a (hr a (aL ..)).1 (hr a (aL ..)).2;have b:=ih λx hx=>hr x (aP _ hx);unfold ch at b ⊢;rw[dX,gO];simp only[ac,aC,aW]at b ⊢;omega
theorem Jq (w:World) (g c:Nat) (ws:List Int) (hN:px w g 0 ws) (hg:g<w.heap.size) (hr:∀x∈ws,0<=x/\x<4294967296) (hn:ws.length<=1000) (ht:Tab w) (hpow:Pow w):
  Calls prog 13 #[.slice (some ⟨g,0,none⟩) ws.length c] w λe w'=>e=.returned (.string ⟨(ch (ws.map dP)).toArray⟩)/\Below w.heap.size w w':=by
 obtain⟨W,s⟩:∃W,w.heap.size=W:=⟨_,rfl⟩;have d:Below w.heap.size w (w.alloc (.cells #[.pointer none,.slice none 0 0] 67)):=az;have hd:DR (w.alloc (.cells #[.pointer none,.slice none 0 0] 67)) W []:=⟨.pointer none,.slice none 0 0,by rw[<- s];exact af _ _,.inl rfl,bq _ _ _ _,λ_=>rfl⟩;have f:=aa (show Below w.heap.size w (w.alloc (.cells #[.pointer none,.slice none 0 0] 67))/\DR (w.alloc (.cells #[.pointer none,.slice none 0 0] 67)) W (ch ((ws.take 0).map dP)) from⟨d,hd⟩);have C:=aa s;have G:=aa hN;have B:=aa hr;have H:=aa λu x (hu:Below w.heap.size w u) (h0:0<=x) (h1:x<4294967296)=>oD u x h0 h1 (ht.below hu) (eE hpow hu);clear d hd hN hr ht hpow
 go_enter func13,ntmps13
 go_wp2_with fail;generalize w.alloc (.cells #[.pointer none,.slice none 0 0] 67)=w1 at f ⊢;clear s
 go_loopw [8] (λs8 wr=>∃j:Nat,s8=.int .i64 j/\j<=ws.length/\Hid (Below w.heap.size w wr/\DR wr W (ch ((ws.take j).map dP)))) (λs8 _=>ws.length-(intOf s8).toNat)
 case atStart=>exact⟨0,rfl,aV _,f⟩
 case round =>
  clear f
  rename World=>wr
  obtain⟨j,rfl,K,hr⟩:=hrel
  by_cases hlt:j<ws.length
  ·obtain⟨x,o⟩:∃x,ws[j]?=some x:=⟨_,aw hlt⟩
   have m:decide ((j:Int)<(ws.length:Int))=true:=by simp;omega
   have a:=B.out x (aJ o);have h:wr.cell? ⟨g,j,none⟩=some (.int .u32 x):=by
    have:=G.out j x o;rw[cA]at this;exact(hr.out.1.cell (aH this)).trans this
   have v:=lY x a.1 a.2;have n:ch ((ws.take (j+1)).map dP)=ch ((ws.take j).map dP)++(dP x++[10]):=by
    rw[bT,o,cy,dT,dX,kW,AB]
   have i:(ch ((ws.take (j+1)).map dP)).length<=31*(ws.take (j+1)).length:=uS _ λy hy=>B.out y (List.mem_of_mem_take hy);rw[bN]at i;have z:=aa (H.out wr x hr.out.1 a.1 a.2);have J:¬(9223372036854775807<(dP x).length+1):=by omega
   have D:(⟨(dP x).toArray⟩:ByteArray)++⟨#[10]⟩=⟨(dP x++[10]).toArray⟩:=by apply ByteArray.ext;simp[ByteArray.data_append]
   have k:=aa n;have p:=aa i;have b:=hr;clear o a v n i hr;generalize dP x=T at *;go_wp2_with fail;refine z.mono ?_;rintro e q ⟨rfl,t⟩;have A:=aa (DE q W _ (T++[10]) (b.out.2.below t) (by rw[<- k.out];have:=p.out;omega));have I:=aa (b.out.1.trans (t.mono b.out.1.size));clear t z h b;go_wp2_with fail;refine A.mono ?_;rintro e y ⟨rfl,hd,d⟩;have l:=aa (show Below w.heap.size w y/\DR y W (ch ((ws.take (j+1)).map dP)) from⟨I.trans (by have:=C.out;rw[this];exact d),by rw[k.out];exact hd⟩);clear hd d A;go_wp2_with fail;exact⟨⟨j+1,by simp,hlt,l⟩,by simp[intOf];omega⟩
  ·have m:decide ((j:Int)<(ws.length:Int))=false:=by simp;omega
   have r:=aa (AS wr W _ hr.out.2);rw[cH (by omega)]at r;have E:=aa hr.out.1;clear hr;go_wp2_with fail;refine r.mono ?_;rintro e y ⟨rfl,d⟩;have F:=aa (E.trans (show Below w.heap.size wr y by have:=C.out;rw[this];exact d));clear d r;go_wp2_with fail;go_ret;exact⟨rfl,F.out⟩
theorem Jd:(Tryz.prog.info? 101).map (λi=>(i.zero,i.size,i.bytes))=some (some (.agg #[.int .i64 0,.int .i64 0,.int .i64 0,.int .i64 0,.int .i64 0,.int .u32 0,.string ⟨#[]⟩,.int .i64 0]),8,72):=by kernel_rfl
theorem xG (W:Int) (h0:0<=W) (h1:W<4294967296) (x:List UInt8) (hx:x∈dJ W):x.length<=100:=by
 unfold dJ at hx;split at hx
 ·rcases aR.1 hx with rfl|hx
  ·decide
  ·rw[aZ]at hx;subst hx
   have:=qP 9 W h0 (by omega);omega
 ·rename_i h
  rcases aR.1 hx with rfl|hx
  ·have:=(sT W h).2.1;omega
  ·obtain⟨u,_,rfl⟩:=bM.1 hx
   have:=(lQ W h u).1;omega
def tk (l:List (Int×Int)):List Value:=l.flatMap λp=>(itA p.1 p.2).toList
theorem FD (l:List (Int×Int)):(tk l).length=l.length*8:=by
 induction l with
 | nil=>rfl
 | cons a l ih=>unfold tk at ih ⊢;rw[gO,ac,ih];show 8+_=_;rw[aC];omega
theorem C2 (l:List (Int×Int)) (p:Int×Int):tk (l++[p])=tk l++(itA p.1 p.2).toList:=by unfold tk;simp
theorem sR {base:Nat} {e:TypeId} {size:Nat} {v:Value} {n:Nat} {xs:List Value} (h:w.ownsRow base e size v n xs) {a:Option Addr} {m c:Nat} (hv:v=.slice a m c):m=n:=by
 rcases h.2 with⟨b,i⟩|⟨g,d,f,b,_⟩
 ·rw[b]at hv;injection hv with _ e _;omega
 ·rw[b]at hv;injection hv with _ e _;exact e.symm
theorem C4 (w:World) (v iv:Value) (W line:Int) (K L B:Nat) (l:List (Int×Int)) (h0:0<=W) (h1:W<4294967296) (ht:Tab w) (hpow:Pow w) (hv:Ba w v (dJ W))
 (hK:One w K iv 111) (hown:w.ownsRow B 101 8 iv l.length (tk l)) (hB:B<=w.heap.size) (hKB:K<B) (hl:l.length<=1000):
  Calls prog 43 #[v,.int .i64 line,pB L,pB K] w λe w'=>e=.returned .nilIface/\Chg (λk=>k=K\/iv.ownBlock=some k) w w'/\∃iv',One w' K iv' 111/\w'.ownsRow B 101 8 iv' (l.length+1) (tk (l++[(W,line)])):=by
 have X:=aa λu (hu:Below w.heap.size w u) hv=>yI u v W h0 h1 (ht.below hu) (eE hpow hu) hv;have HV:=aa hv;obtain⟨x,M⟩:∃x,(dJ W)[0]?=some x:=⟨_,aw (by have:=(nj W).1;omega)⟩;have t:=Bt 58 x (FO W x M);have a2:=(nj W).1;obtain⟨g,c,rfl,O,P,n⟩:=hv;have k0:=n 0 x M;have N:=aa (Tryz.strings_CutSuffix ⟨x.toArray⟩ ⟨#[58]⟩ w (by have:=xG W h0 h1 x (aJ M);show x.toArray.size<=_;simp;omega));rw[show(⟨x.toArray⟩:ByteArray).data.toList=x from rfl,show(⟨#[58]⟩:ByteArray).data.toList=[58] from rfl,t.1,t.2]at N;have Z:=aa hK;have G:=aa hown;clear ht hpow n M t hK hown O
 go_enter func43,ntmps43
 go_wp2_with fail;refine N.mono ?_;rintro e u ⟨rfl,rfl⟩;have r:=aa (X.out u (ai _ _) HV.out);unfold itA at r;clear N X;go_wp2_with fail;refine r.mono ?_;rintro e z ⟨rfl,J⟩;have i:One z K iv 111:=Z.below J;have o:=du G.out (Chg.of_below (S:=λ_=>False) J) λ_ _=>id;obtain⟨a,m,f,rfl⟩:=cc o;have hm:m=l.length:=sR o rfl;subst hm;have kz:=i.c;have lK:=ab i;have a0:=aa i;have H:=aa o;have HZ:=aa J;obtain⟨i0,hi,T,U,V⟩:=cX Jd;have E:Hid (∀j y,(itA W line).toList[j]?=some y->((z.alloc (.cells #[.int .i64 (dO W),.int .i64 (dA W),.int .i64 (dB W),.int .i64 (dC W),.int .i64 (dM W),.int .u32 W,.string ⟨#[]⟩,.int .i64 line] 101)).alloc (.cells #[.int .i64 (dO W),.int .i64 (dA W),.int .i64 (dB W),.int .i64 (dC W),.int .i64 (dM W),.int .u32 W,.string ⟨#[]⟩,.int .i64 line] 101)).cell? ((⟨z.heap.size+1,0,none⟩:Addr).add j)=some y):=by
  have:=eu (z.alloc (.cells #[.int .i64 (dO W),.int .i64 (dA W),.int .i64 (dB W),.int .i64 (dC W),.int .i64 (dM W),.int .u32 W,.string ⟨#[]⟩,.int .i64 line] 101)) (itA W line).toList 101;rw[ah]at this;exact this
 have F:Hid (∀y∈(itA W line).toList,y.oneCell'=true):=λy hy=>by
  simp only[itA,aR,jG,or_false]at hy;rcases hy with rfl|rfl|rfl|rfl|rfl|rfl|rfl|rfl<;>rfl
 have R:B<=((z.alloc (.cells #[.int .i64 (dO W),.int .i64 (dA W),.int .i64 (dB W),.int .i64 (dC W),.int .i64 (dM W),.int .u32 W,.string ⟨#[]⟩,.int .i64 line] 101)).alloc (.cells #[.int .i64 (dO W),.int .i64 (dA W),.int .i64 (dB W),.int .i64 (dC W),.int .i64 (dM W),.int .u32 W,.string ⟨#[]⟩,.int .i64 line] 101)).heap.size:=by
  have:=J.size;rw[ah,ah];omega
 have q:One ((z.alloc (.cells #[.int .i64 (dO W),.int .i64 (dA W),.int .i64 (dB W),.int .i64 (dC W),.int .i64 (dM W),.int .u32 W,.string ⟨#[]⟩,.int .i64 line] 101)).alloc (.cells #[.int .i64 (dO W),.int .i64 (dA W),.int .i64 (dB W),.int .i64 (dC W),.int .i64 (dM W),.int .u32 W,.string ⟨#[]⟩,.int .i64 line] 101)) K (.slice a l.length f) 111:=(dF _ _ (by rw[ah];omega)).trans ((dF _ _ lK).trans i);have D:=aa q;have C:Hid (∀A h,((z.alloc (.cells #[.int .i64 (dO W),.int .i64 (dA W),.int .i64 (dB W),.int .i64 (dC W),.int .i64 (dM W),.int .u32 W,.string ⟨#[]⟩,.int .i64 line] 101)).alloc (.cells #[.int .i64 (dO W),.int .i64 (dA W),.int .i64 (dB W),.int .i64 (dC W),.int .i64 (dM W),.int .u32 W,.string ⟨#[]⟩,.int .i64 line] 101)).grownBy h (Value.slice a l.length f).ownBlock->h.ownsRow B 101 8 A (l.length+1) (tk l++(itA W line).toList)->(h.cell? ⟨K,0,none⟩=some (.slice a l.length f)/\h.frozen? ⟨K,0,none⟩=false)/\Chg (λk=>k=K\/(Value.slice a l.length f).ownBlock=some k) u (h.setCell ⟨K,0,none⟩ A)/\∃iv',One (h.setCell ⟨K,0,none⟩ A) K iv' 111/\(h.setCell ⟨K,0,none⟩ A).ownsRow B 101 8 iv' (l.length+1) (tk (l++[(W,line)]))):=λA h P ho=>by
  have Q:=cG H.out;have s:One h K (.slice a l.length f) 111:=(P.block K (ab D.out) (λe=>by have:=Q K e.symm;omega)).trans D.out;have O:Chg (λk=>k=K\/(Value.slice a l.length f).ownBlock=some k) u h:=(((Chg.of_below HZ.out).alloc _).alloc _).grown P λk hk _=>.inr hk;refine⟨⟨s.c,aD h K 0 _ _ s⟩,O.setCell (p:=⟨K,0,none⟩) (λ_=>.inl rfl) _,A,aA (j:=0) s _,?_⟩;rw[C2];exact bg ho (show K<B from hKB) _
 have Y:decide ((4096:Int)<=(l.length:Int))=false:=by simp;omega
 have a1:=FD l;clear i o J r q
 go_wp2_with (at_builtin;refine wpList_append_own _ rfl _ _ 111 rfl B 101 i0 _ 8 72 underlying111 hi T U V rfl (by decide) _ _ _ rfl ((H.alloc _).alloc _) ⟨z.heap.size+1,0,none⟩ 1 1 (itA W line).toList rfl rfl E.out F.out (by unfold maxLen;omega) (by omega) R ?_;intro A h b d _;obtain⟨sa,sn,sc,rfl⟩:=cc b;obtain⟨⟨k1,f1⟩,hrel⟩:=C.out _ h d b;have I:=aa hrel;clear hrel b d)
 go_ret;exact⟨rfl,I.out⟩
end Go.Proofs.YtbeaaimcpkogcaaGreatDoor
