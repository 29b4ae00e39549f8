/- Lemmas on the way to the claim. -/
import Derived.ProofKit
import Derived.LaidMore
import Derived.OpenShut
import Derived.Stop.Joined
import Derived.Test.YtbeaaimcpkogcaaGreatDoorM34
import Derived.Test.YtbeaaimcpkogcaaGreatDoorM49
set_option linter.unusedSimpArgs false
set_option linter.unusedVariables false
set_option maxHeartbeats 8000000
set_option maxRecDepth 100000
namespace Go.Proofs.YtbeaaimcpkogcaaGreatDoor
open Go.Proofs.Tryz Go.RowKit
variable {W w w':World} {P:Program} {T:Tx} {off:Nat}
section
open Go.ChangeShapes Go.WideShapes Go.ChangeAt
def mr:List (String×DataW Unit):=Rows.topPrintedRow.laid
def kJ : List (String × DataW Unit) := [("math/bits.deBruijn32tab", Rows.laid_math_bits_deBruijn32tab), ("math/bits.deBruijn64tab", Rows.laid_math_bits_deBruijn64tab), ("internal/strconv.uint64pow10", Rows.laid_internal_strconv_uint64pow10), ("strconv.ErrRange", Rows.laid_strconv_ErrRange), ("strconv.ErrSyntax", Rows.laid_strconv_ErrSyntax), ("fallow/isa.rows", Rows.laid_fallow_isa_rows), ("unicode.White_Space", Rows.laid_unicode_White_Space), ("strings.asciiSpace", Rows.laid_strings_asciiSpace)]
theorem kh (h : laidMetH prog mr W): laidMet prog kJ W ∧ handlesMet prog [("errors.errorType", Rows.laid_errors_errorType)] W := h
theorem pP {P:Program} {w:World}:∀{l:List (String×DataW Unit)} {ps:List MemPlace},DataW.LaidVars P w l ps->∀{n:String} {d:DataW Unit},(n,d)∈l ->
  ∃g t cs fuel p,P.globalNamed n=some g/\(P.globals[g]?).map (·.type)=some t/\w.var? P n=some cs/\DataW.trod (λ_=>()) P w 0 (λ_=>true) false fuel t cs.toList=some (d,p)
 | [],_,_,_,_,a=>by cases a
 | (n',d')::r,ps,⟨g,t,cs,fuel,p,q,hg,ht,hv,hd,hr,_⟩,n,d,a=>by
  rcases aR.1 a with e|a
  ·injection e with e1 e2
   subst e1 e2;exact⟨g,t,cs,fuel,p,hg,ht,hv,hd⟩
  ·exact pP hr a
theorem Br {l:List (String×DataW Unit)} {name:String} {k:IntKind} {zs:List Int} {g:Nat} {t e:TypeId} {n:Nat}
 (hg:P.globalNamed name=some g) (hty:(P.globals[g]?).map (·.type)=some t) (ht:P.underlying t=some (.array n e)) (he:P.underlying e=some (.int k)) (hce:P.cellsOf e=1) (hct:P.cellsOf t=n)
 (h:laidMet P l W) (hm:(name,(Lib.tabData k zs:DataW Unit))∈l):Lib.TabIs P W name k zs:=by
 obtain⟨j,f,_⟩:=h;obtain⟨i,m,cs,d,p,b,c,a,hd⟩:=pP f hm;obtain rfl:=aT (hg.symm.trans b);obtain rfl:=aT (hty.symm.trans c);unfold Lib.TabIs;rw[a,<- Lib.cells_of_tab ht he hce hct hd]
theorem yK (h : laidMetH prog mr W): Lib.TabIs prog W "internal/strconv.uint64pow10" .u64 Lib.pow10Tab :=
 Br (g:=3) (t:=298) (e:=107) (n:=20) (by kernel_rfl) (by kernel_rfl) underlying298 underlying107 (by kernel_rfl) (by kernel_rfl) (kh h).1 (by unfold kJ;exact .tail _ (.tail _ (.head _)))
theorem AZ (h : laidMetH prog mr W): Lib.TabIs prog W "strings.asciiSpace" .u8 Lib.asciiSpaceTab :=
 Br (g:=2) (t:=255) (e:=5) (n:=256) (by kernel_rfl) (by kernel_rfl) underlying255 underlying5 (by kernel_rfl) (by kernel_rfl) (kh h).1 (by unfold kJ;exact .tail _ (.tail _ (.tail _ (.tail _ (.tail _ (.tail _ (.tail _ (.head _))))))))
theorem Fq (h:W.ShapedOpen prog):∃m:Int,W.cell? ⟨4,0,none⟩=some (.int .i64 m):=
 cell_of_shapedOpen_int (P:=prog) (g:=4) (t:=3) (zero:=#[.int .i64 0]) h (bm (by kernel_rfl)) (by kernel_rfl) rfl (by kernel_rfl) (by kernel_rfl) underlying3
theorem Kl: (Tryz.prog.cutTypes.find? (·.1 == "internal/reflectlite.rtype")).map (·.2) = some 212 := by kernel_rfl
theorem IM:((List.range Tryz.prog.types.size).filter λt=>Tryz.prog.rowNamed t [101,114,114,111,114])=[24]:=by kernel_rfl
theorem xu (h:laidMetH prog mr W):W.cell? ⟨0,0,none⟩=some (.iface 212 (.agg #[.pointer (some ⟨13,24,none⟩)])):=by
 obtain⟨a,u,k,d,e,f,g,b⟩:=(kh h).2 _ (aZ.2 rfl);have i:a=[101,114,114,111,114]:=(aT d).symm;subst i;obtain rfl:=aT (Kl.symm.trans e);have c:k∈(List.range Tryz.prog.types.size).filter λt=>Tryz.prog.rowNamed t [101,114,114,111,114]:=Mx.2 ⟨List.mem_range.2 f,g⟩;rw[IM]at c;obtain rfl:=aZ.1 c;have j:typeHandle prog 24=.pointer (some ⟨13,24,none⟩):=by kernel_rfl
 rw[j]at b
 simpa using World.var?_cell (show Tryz.prog.globalNamed "errors.errorType" = some 0 by kernel_rfl) b 0
theorem KV: Tryz.prog.globalNamed "fallow/isa.rows" = some 1 := by kernel_rfl
theorem LH:(Tryz.prog.globals[1]?).map (·.type)=some 237:=by kernel_rfl
theorem Jb:(Rows.laid_fallow_isa_rows:DataW Unit)=.agg (Gt.map λr=>.agg [.lit (.string r.1.toList),.lit (.string r.2.toList)]):=rfl
theorem qd {H:Type} {enc:TypeId×Value->H} {base:Nat} {spare:Nat->Bool} {held:Bool} {fuel:Nat} {t:TypeId} {cs:List Value} {y:DataW H×List MemPlace} {z:Array UInt8} (ht:P.underlying t=some .string)
 (h:DataW.trod enc P w base spare held fuel t cs=some y) (e:y.1=.lit (.string z.toList)):cs=[.string ⟨z⟩]:=by
 obtain⟨s,rfl,rfl,_⟩:=DataW.trod_string ht h;simp only[DataW.lit.injEq,Lit.string.injEq]at e;have:s=⟨z⟩:=bytes_inj e;rw[this]
theorem BZ (h:laidMetH prog mr W):Tab W:=by
 obtain⟨S,I,_⟩:=(kh h).1
 obtain ⟨m, T, b, P, R, u, v, a, p⟩ := pP I (show ("fallow/isa.rows", (Rows.laid_fallow_isa_rows : DataW Unit)) ∈ kJ by unfold kJ; exact .tail _ (.tail _ (.tail _ (.tail _ (.tail _ (.head _))))))
 obtain rfl:=aT (KV.symm.trans u);obtain rfl:=aT (LH.symm.trans v);obtain⟨G,Q,rfl,d,f,hn,s⟩:=DataW.trod_array underlying237 p;have g:Tryz.prog.cellsOf 182=2:=by kernel_rfl
 have k:Tryz.prog.cellsOf 237=108:=by kernel_rfl
 have H:Tryz.prog.cellsOf 9=1:=by kernel_rfl
 rw[k]at f;rw[Jb]at d;simp only[aQ,DataW.agg.injEq]at d;have w:=d.1;have z:∀i,i<54->b.toList[i*2]?=some (.string (nmN i))/\b.toList[i*2+1]?=some (.string (fmN i)):=by
  intro i D;have q:=s i D;have e:i<G.length:=by omega
  rw[aw e,g]at q;obtain⟨U,V,n,K,J,x,y⟩:=trod_struct2 underlying182 q;have hd:(G.map (·.1))[i]?=(Gt.map λr=>(DataW.agg [.lit (.string r.1.toList),.lit (.string r.2.toList)]:DataW Unit))[i]?:=by rw[<- w]
  have c:i<Gt.length:=D;rw[aG,aG,aw e,aw c,K]at hd;simp only[kV,aq,DataW.agg.injEq,fN,A9]at hd;have N:=qd underlying9 x hd.1;have O:=qd underlying9 y hd.2;have L:nmN i=⟨Gt[i].1⟩:=by unfold nmN;rw[dD,aw c];rfl
  have M:fmN i=⟨Gt[i].2⟩:=by unfold fmN;rw[dD,aw c];rfl
  rw[L,M];have m:=aB (λl=>l[0]?) N;have C:=aB (λl=>l[0]?) O;simp[List.getElem?_drop,H]at m C;exact⟨by rw[MC];exact m,by rw[MC];exact C⟩
 have o:b=uj:=by
  apply Array.ext';apply List.ext_getElem?;intro j
  by_cases hj:j<108
  ·obtain⟨E,F⟩:=z (j/2) (by omega)
   obtain⟨A,B⟩:=Le (j/2) (by omega);rw[<- MC]at A B
   by_cases q:j%2=0
   ·rw[show j/2*2=j by omega]at E A
    rw[E,A]
   ·rw[show j/2*2+1=j by omega]at F B
    rw[F,B]
  ·rw[rz (by omega),rz (by have:uj.toList.length=108:=rfl;omega)]
 simp only[World.var?,KV,aj]at a;split at a
 ·rename_i cs t fr hh
  obtain rfl:=aT a;rw[o]at hh;exact⟨(A0.1 hh).1,t,fr,hh⟩
 ·cases a
theorem FR (h : laidMetH prog mr W): ∃ tp p, W.var? prog "strconv.ErrRange" = some #[.iface tp p] := by
 obtain⟨l,g,_⟩:=(kh h).1
 obtain ⟨j, m, f, i, k, c, d, e, b⟩ := pP g (show ("strconv.ErrRange", (Rows.laid_strconv_ErrRange : DataW Unit)) ∈ kJ by unfold kJ; exact .tail _ (.tail _ (.tail _ (.head _))))
 obtain rfl := aT ((show Tryz.prog.globalNamed "strconv.ErrRange" = some 7 by kernel_rfl).symm.trans c)
 obtain rfl:=aT ((show(Tryz.prog.globals[7]?).map (·.type)=some 24 by kernel_rfl).symm.trans d);obtain⟨_,u,v,a,_⟩:=iface_of_trod underlying24 b;refine⟨u,v,?_⟩;rw[e];congr 1;exact Array.ext' a
theorem ze (h:laidMetH prog mr W) (hs:W.ShapedOpen prog):Lay W:=⟨⟨AZ h,FR h⟩,BZ h,Fq hs,xu h⟩
end
def At4 (T:Tx) (off:Nat) (n:Int):Prop:=∃a b c d,T[off]?=some a/\T[off+1]?=some b/\T[off+2]?=some c/\T[off+3]?=some d/\un4 a b c d=n
structure DP where
 p4:Nat
 p5:Nat
 p6:Nat
 R:Nat
 G:Nat
def DP.ok (d:DP) (lo:Nat):Prop:=(¬d.p4=d.R/\¬d.p5=d.R/\¬d.p6=d.R/\¬d.p4=d.p5/\¬d.p6=d.p5/\¬d.G=d.p5)/\(d.p4<lo/\d.p5<lo/\d.p6<lo/\d.R<lo/\d.G<lo)
def DP.num (d:DP):Value:=.func (.func 25) #[] #[pB d.p4,pB d.p5]
structure DSt (w:World) (d:DP) (T:Tx) (off:Nat):Prop where
 rd:RdAt w d.R d.G T off
 c4:One w d.p4 (pB d.R) 84
 c5:One w d.p5 (.bool true) 4
 c6:One w d.p6 d.num 88
theorem DSt.chg {S:Nat->Prop} {d:DP} (h:DSt w d T off) (hc:Chg S w w') (h1:¬S d.R) (h2:¬S d.G) (h4:¬S d.p4) (h5:¬S d.p5) (h6:¬S d.p6):DSt w' d T off:=
 ⟨h.rd.chg hc h1 h2,h.c4.chg hc h4,h.c5.chg hc h5,h.c6.chg hc h6⟩
theorem DSt.below {d:DP} (h:DSt w d T off) (hb:Below w.heap.size w w'):DSt w' d T off:=h.chg (Chg.of_below (S:=λ_=>False) hb) id id id id id
theorem qD (w:World) (d:DP) (lo:Nat) (T:Tx) (off:Nat) (n:Int) (h:DSt w d T off) (hd:d.ok lo) (h4:At4 T off n):
  Calls prog 25 #[.int .i64 4,pB d.p4,pB d.p5] w λe w'=>e=.returned (.int .u32 n)/\Chg (λk=>k=d.R\/k=d.p5) w w'/\DSt w' d T (off+4):=by
 obtain⟨a,b,c,e,y,z,f,o,hn⟩:=h4;have s:=wW w d.R d.G T off a b c e h.rd y z f o;rw[hn]at s;obtain⟨⟨A,v,B,g,m,l⟩,_⟩:=hd;have x:=aa (s.mono (R':=λe q=>e=.returned (.tuple #[.int .u32 n,.bool true])/\(q.cell? ⟨d.p5,0,none⟩=some (.bool true)/\q.frozen? ⟨d.p5,0,none⟩=false)/\Hid (Chg (λk=>k=d.R\/k=d.p5) w (q.setCell ⟨d.p5,0,none⟩ (.bool true))/\DSt (q.setCell ⟨d.p5,0,none⟩ (.bool true)) d T (off+4))) λe q ⟨o,f,hrd⟩=>by
  have C:=h.c4.chg f A;have r:=h.c5.chg f v;have D:=h.c6.chg f B;have t:Chg (λk=>k=d.p5) q (q.setCell ⟨d.p5,0,none⟩ (.bool true)):=Chg.setCell (S:=λk=>k=d.p5) (p:=⟨d.p5,0,none⟩) (Chg.refl _ _) (λ_=>rfl) _;have u:=(f.mono λi _ (e:i=d.R)=>(Or.inl e:i=d.R\/i=d.p5));exact⟨o,⟨r.c,aD _ _ 0 _ _ r⟩,u.setCell (p:=⟨d.p5,0,none⟩) (λ_=>.inr rfl) _,hrd.chg t (λe=>v e.symm) l,C.chg t g,aA (j:=0) r _,D.chg t m⟩)
 have F:=h.c4.c;have G:=h.c5.c;clear s h y z f o hn A v B g m l
 go_enter func25,ntmps25
 go_wp2_with fail;refine x.mono ?_;rintro e q ⟨rfl,⟨I,H⟩,E⟩;clear x;go_wp2_with fail;go_ret;exact⟨rfl,E.out⟩
theorem ug (ws:List Int) (n:Int):gf ws++[Value.int .u32 n]=gf (ws++[n]):=by unfold gf;rw[dT];rfl
def Ha (w:World) (d:DP) (D lo:Nat) (T:Tx) (off:Nat) (r:Value->Array Value) (v:Value) (ws:List Int) (q:World):Prop:=Chg (λk=>k=d.R\/k=d.p5) w q/\DSt q d T off/\q.heap[D]?=some (.cells (r v) 37 (0,0))/\q.ownsRow lo 40 1 v ws.length (gf ws)/\lo<=q.heap.size
theorem D1 (w:World) (d:DP) (D lo:Nat) (T:Tx) (off:Nat) (n:Int) (h:DSt w d T off) (hd:d.ok lo) (hD:D<lo) (hDR:¬D=d.R) (hGD:¬d.G=D) (hD5:¬D=d.p5) (h4:At4 T off n) (hlo:lo<=w.heap.size)
 (pages st:Nat) (ov v:Value) (ws:List Int) (hrow:w.heap[D]?=some (.cells (ig pages st v ov) 37 (0,0))) (hov:∀g,ov.ownBlock=some g->v.ownBlock≠some g) (hown:w.ownsRow lo 40 1 v ws.length (gf ws)) (hl:ws.length<=1000000):
  Calls prog 28 #[pB D,pB d.p6] w λe w'=>e=.returned (.tuple #[])/\Chg (λk=>k=d.R\/k=d.p5\/k=D\/(lo<=k/\ov.ownBlock≠some k)) w w'/\DSt w' d T (off+4)/\∃v',w'.heap[D]?=some (.cells (ig pages st v' ov) 37 (0,0))/\w'.ownsRow lo 40 1 v' (ws++[n]).length (gf (ws++[n])):=by
 have c3:w.cell? ⟨D,3,none⟩=some v:=(ae hrow 3).trans rfl;have I:w.cell? ⟨d.p6,0,none⟩=some d.num:=h.c6.c;obtain⟨Z,U,B,C,E⟩:=cX Tryz.info40;have N:Hid (Calls prog 25 #[.int .i64 4,pB d.p4,pB d.p5] w.drew λe q=>e=.returned (.int .u32 n)/\(q.cell? ⟨D,3,none⟩=some v/\q.cell? ⟨d.p6,0,none⟩=some (.func (.func 25) #[] #[pB d.p4,pB d.p5]))/\Hid (Ha w d D lo T (off+4) (λv=>ig pages st v ov) v ws q)/\lo<=q.heap.size):=by
  have F:Below w.heap.size w w.drew:=(ai _ _).drew;refine(qD w.drew d lo T off n (h.below F) hd h4).mono ?_;rintro e q ⟨rfl,Q,s⟩;have c:Chg (λk=>k=d.R\/k=d.p5) w q:=(Chg.of_below (S:=λk=>k=d.R\/k=d.p5) F).trans Q λi _ e=>e;have o:=(c.block D (ab hrow) (by rintro(e|e);exact hDR e;exact hD5 e)).trans hrow;have m:lo<=q.heap.size:=ay hlo c.size;exact⟨rfl,⟨(ae o 3).trans rfl,s.c6.c⟩,⟨c,s,o,aY hown c (λg hg=>by
   have:=cG hown g hg;rintro(e|e)
   ·have:=hd.2.2.2.2.1;omega
   ·have:=hd.2.2.1;omega),m⟩,m⟩
 have t:Hid (∀q v' a,Ha w d D lo T (off+4) (λv=>ig pages st v ov) v ws q->(q.alloc (.cells #[.int .u32 n] 40)).grownBy a v.ownBlock->a.ownsRow lo 40 1 v' (ws.length+1) (gf ws++[.int .u32 n]) ->
   (a.cell? ⟨D,3,none⟩=some v/\a.frozen? ⟨D,3,none⟩=false/\a.cell? ⟨d.p6,0,none⟩=some (.func (.func 25) #[] #[pB d.p4,pB d.p5]))/\(Chg (λk=>k=d.R\/k=d.p5\/k=D\/(lo<=k/\ov.ownBlock≠some k)) w (a.setCell ⟨D,3,none⟩ v')/\DSt (a.setCell ⟨D,3,none⟩ v') d T (off+4)/\∃v'',(a.setCell ⟨D,3,none⟩ v').heap[D]?=some (.cells (ig pages st v'' ov) 37 (0,0))/\(a.setCell ⟨D,3,none⟩ v').ownsRow lo 40 1 v'' (ws++[n]).length (gf (ws++[n])))):=λq v' a ⟨c,s,o,ho,m⟩ hg b=>by
  have A:Chg (λk=>lo<=k/\ov.ownBlock≠some k) q (q.alloc (.cells #[.int .u32 n] 40)):=(Chg.refl _ _).alloc _;have f:Chg (λk=>lo<=k/\ov.ownBlock≠some k) q a:=A.grown hg λk hk hl=>⟨cG ho k hk,λe=>hov k e hk⟩;obtain⟨⟨n4,n5,n6,a0,a2,a1⟩,l4,l5,l6,lR,lG⟩:=hd;have x:DSt a d T (off+4):=s.chg f (λe=>by have:=e.1;omega) (λe=>by have:=e.1;omega) (λe=>by have:=e.1;omega) (λe=>by have:=e.1;omega) (λe=>by have:=e.1;omega);have r:a.heap[D]?=_:=(f.block D (ab o) (λe=>by have:=e.1;omega)).trans o;have y:Chg (λk=>k=D) a (a.setCell ⟨D,3,none⟩ v'):=Chg.setCell (S:=λk=>k=D) (p:=⟨D,3,none⟩) (Chg.refl _ _) (λ_=>rfl) _;have M:¬d.p6=D:=λe=>by
   have:=s.c6;rw[e]at this;exact absurd (Bl o this) (by decide)
  have z:¬d.p4=D:=λe=>by
   have:=s.c4;rw[e]at this;exact absurd (Bl o this) (by decide)
  have O:¬d.G=D:=hGD;refine⟨⟨(ae r 3).trans rfl,aD a D 3 _ _ r,x.c6.c⟩,?_,x.chg y (λe=>hDR e.symm) O z (λe=>hD5 e.symm) M,v',aA (j:=3) r v',?_⟩
  ·exact((c.mono λi _ (e:i=d.R\/i=d.p5)=>(e.elim Or.inl λe=>.inr (.inl e):i=d.R\/i=d.p5\/i=D\/(lo<=i/\ov.ownBlock≠some i))).then (f.mono λi _ e=>.inr (.inr (.inr e)))).setCell (p:=⟨D,3,none⟩) (λ_=>.inr (.inr (.inl rfl))) _
  ·rw[<- ug,ac]
   exact bg b (show D<lo from hD) _
 clear hrow hown h h4 hov hDR hD5;unfold DP.num at I
 go_enter func28,ntmps28
 go_wp2_with fail
 go_region_law (first
   | (go_simp;go_at_call 25;refine N.out.mono ?_;rintro e q ⟨rfl,⟨K,L⟩,H,Y⟩;have W:=aH K;have X:=aH L)
   | (refine step_append_lies _ (by rfl) _ _ _ (by rfl) lo 40 Z _ 1 4 underlying34 U B C E rfl (by omega) v ws.length (gf ws) (by rfl) (H.out.2.2.2.1.alloc _) ⟨q.heap.size,0,none⟩ 1 1 [.int .u32 n] (by rfl) (by rfl) (eu q _ _) (by simp[Value.oneCell']) (by omega) (by unfold maxLen;omega) (by omega) (by simp;omega) (q.heap.size+1) (by simp) ?_;intro gg J a b l P V;obtain⟨⟨k0,kf,k6⟩,hrel⟩:=t.out q _ a H.out l b;have u:=aa hrel;clear hrel))
 all_goals (go_end0;exact⟨rfl,u.out⟩)
def G9 (w:World) (d:DP) (D lo:Nat) (T:Tx) (off:Nat) (r:Value->Array Value) (v:Value) (ws:List Int) (q:World):Prop:=Chg (λk=>k=d.R\/k=d.p5) w q/\DSt q d T off/\q.heap[D]?=some (.cells (r v) 37 (0,0))/\q.ownsRow lo 40 1 v ws.length (gf ws)/\lo<=q.heap.size
theorem D0 (w:World) (d:DP) (D lo:Nat) (T:Tx) (off:Nat) (n:Int) (h:DSt w d T off) (hd:d.ok lo) (hD:D<lo) (hDR:¬D=d.R) (hGD:¬d.G=D) (hD5:¬D=d.p5) (h4:At4 T off n) (hlo:lo<=w.heap.size)
 (pages st:Nat) (ov v:Value) (ws:List Int) (hrow:w.heap[D]?=some (.cells (ig pages st ov v) 37 (0,0))) (hov:∀g,ov.ownBlock=some g->v.ownBlock≠some g) (hown:w.ownsRow lo 40 1 v ws.length (gf ws)) (hl:ws.length<=1000000):
  Calls prog 31 #[pB D,pB d.p6] w λe w'=>e=.returned (.tuple #[])/\Chg (λk=>k=d.R\/k=d.p5\/k=D\/(lo<=k/\ov.ownBlock≠some k)) w w'/\DSt w' d T (off+4)/\∃v',w'.heap[D]?=some (.cells (ig pages st ov v') 37 (0,0))/\w'.ownsRow lo 40 1 v' (ws++[n]).length (gf (ws++[n])):=by
 have c3:w.cell? ⟨D,6,none⟩=some v:=(ae hrow 6).trans rfl;have I:w.cell? ⟨d.p6,0,none⟩=some d.num:=h.c6.c;obtain⟨Z,U,B,C,E⟩:=cX Tryz.info40;have N:Hid (Calls prog 25 #[.int .i64 4,pB d.p4,pB d.p5] w.drew λe q=>e=.returned (.int .u32 n)/\(q.cell? ⟨D,6,none⟩=some v/\q.cell? ⟨d.p6,0,none⟩=some (.func (.func 25) #[] #[pB d.p4,pB d.p5]))/\Hid (G9 w d D lo T (off+4) (λv=>ig pages st ov v) v ws q)/\lo<=q.heap.size):=by
  have F:Below w.heap.size w w.drew:=(ai _ _).drew;refine(qD w.drew d lo T off n (h.below F) hd h4).mono ?_;rintro e q ⟨rfl,Q,s⟩;have c:Chg (λk=>k=d.R\/k=d.p5) w q:=(Chg.of_below (S:=λk=>k=d.R\/k=d.p5) F).trans Q λi _ e=>e;have o:=(c.block D (ab hrow) (by rintro(e|e);exact hDR e;exact hD5 e)).trans hrow;have m:lo<=q.heap.size:=ay hlo c.size;exact⟨rfl,⟨(ae o 6).trans rfl,s.c6.c⟩,⟨c,s,o,aY hown c (λg hg=>by
   have:=cG hown g hg;rintro(e|e)
   ·have:=hd.2.2.2.2.1;omega
   ·have:=hd.2.2.1;omega),m⟩,m⟩
 have t:Hid (∀q v' a,G9 w d D lo T (off+4) (λv=>ig pages st ov v) v ws q->(q.alloc (.cells #[.int .u32 n] 40)).grownBy a v.ownBlock->a.ownsRow lo 40 1 v' (ws.length+1) (gf ws++[.int .u32 n]) ->
   (a.cell? ⟨D,6,none⟩=some v/\a.frozen? ⟨D,6,none⟩=false/\a.cell? ⟨d.p6,0,none⟩=some (.func (.func 25) #[] #[pB d.p4,pB d.p5]))/\(Chg (λk=>k=d.R\/k=d.p5\/k=D\/(lo<=k/\ov.ownBlock≠some k)) w (a.setCell ⟨D,6,none⟩ v')/\DSt (a.setCell ⟨D,6,none⟩ v') d T (off+4)/\∃v'',(a.setCell ⟨D,6,none⟩ v').heap[D]?=some (.cells (ig pages st ov v'') 37 (0,0))/\(a.setCell ⟨D,6,none⟩ v').ownsRow lo 40 1 v'' (ws++[n]).length (gf (ws++[n])))):=λq v' a ⟨c,s,o,ho,m⟩ hg b=>by
  have A:Chg (λk=>lo<=k/\ov.ownBlock≠some k) q (q.alloc (.cells #[.int .u32 n] 40)):=(Chg.refl _ _).alloc _;have f:Chg (λk=>lo<=k/\ov.ownBlock≠some k) q a:=A.grown hg λk hk hl=>⟨cG ho k hk,λe=>hov k e hk⟩;obtain⟨⟨n4,n5,n6,a0,a2,a1⟩,l4,l5,l6,lR,lG⟩:=hd;have x:DSt a d T (off+4):=s.chg f (λe=>by have:=e.1;omega) (λe=>by have:=e.1;omega) (λe=>by have:=e.1;omega) (λe=>by have:=e.1;omega) (λe=>by have:=e.1;omega);have r:a.heap[D]?=_:=(f.block D (ab o) (λe=>by have:=e.1;omega)).trans o;have y:Chg (λk=>k=D) a (a.setCell ⟨D,6,none⟩ v'):=Chg.setCell (S:=λk=>k=D) (p:=⟨D,6,none⟩) (Chg.refl _ _) (λ_=>rfl) _;have M:¬d.p6=D:=λe=>by
   have:=s.c6;rw[e]at this;exact absurd (Bl o this) (by decide)
  have z:¬d.p4=D:=λe=>by
   have:=s.c4;rw[e]at this;exact absurd (Bl o this) (by decide)
  have O:¬d.G=D:=hGD;refine⟨⟨(ae r 6).trans rfl,aD a D 6 _ _ r,x.c6.c⟩,?_,x.chg y (λe=>hDR e.symm) O z (λe=>hD5 e.symm) M,v',aA (j:=6) r v',?_⟩
  ·exact((c.mono λi _ (e:i=d.R\/i=d.p5)=>(e.elim Or.inl λe=>.inr (.inl e):i=d.R\/i=d.p5\/i=D\/(lo<=i/\ov.ownBlock≠some i))).then (f.mono λi _ e=>.inr (.inr (.inr e)))).setCell (p:=⟨D,6,none⟩) (λ_=>.inr (.inr (.inl rfl))) _
  ·rw[<- ug,ac]
   exact bg b (show D<lo from hD) _
 clear hrow hown h h4 hov hDR hD5;unfold DP.num at I
 go_enter func31,ntmps31
 go_wp2_with fail
 go_region_law (first
   | (go_simp;go_at_call 25;refine N.out.mono ?_;rintro e q ⟨rfl,⟨K,L⟩,H,Y⟩;have W:=aH K;have X:=aH L)
   | (refine step_append_lies _ (by rfl) _ _ _ (by rfl) lo 40 Z _ 1 4 underlying34 U B C E rfl (by omega) v ws.length (gf ws) (by rfl) (H.out.2.2.2.1.alloc _) ⟨q.heap.size,0,none⟩ 1 1 [.int .u32 n] (by rfl) (by rfl) (eu q _ _) (by simp[Value.oneCell']) (by omega) (by unfold maxLen;omega) (by omega) (by simp;omega) (q.heap.size+1) (by simp) ?_;intro gg J a b l P V;obtain⟨⟨k0,kf,k6⟩,hrel⟩:=t.out q _ a H.out l b;have u:=aa hrel;clear hrel))
 all_goals (go_end0;exact⟨rfl,u.out⟩)
theorem sY (w:World) (d:DP) (lo:Nat) (T:Tx) (off:Nat) (L N:Nat) (fid:FuncId) (caps:Array Value) (I:Nat->World->Prop) (h:DSt w d T off) (hd:d.ok lo) (h4:At4 T off N) (hLN:N<=L) (hL:L<=1000000)
 (hI0:∀v,DSt v d T (off+4)->Chg (λk=>k=d.R\/k=d.p5) w v->I 0 v) (hI5:∀j v,I j v->v.cell? ⟨d.p5,0,none⟩=some (.bool true))
 (hstep:∀j v,j<N->I j v->Calls prog fid caps v λe q=>e=.returned (.tuple #[])/\I (j+1) q)
 (hcall:∀u,Sem.run prog (callFunc fid caps) u=.ok (.enter fid caps) u):
  Calls prog 27 #[.int .i64 L,.func (.func fid) #[] caps,pB d.p6,pB d.p5] w λe w'=>e=.returned (.tuple #[])/\I N w':=by
 have J:w.cell? ⟨d.p6,0,none⟩=some (.func (.func 25) #[] #[pB d.p4,pB d.p5]):=h.c6.c;have s:=aa ((qD w d lo T off N h hd h4).mono (R':=λe q=>e=.returned (.int .u32 N)/\(q.cell? ⟨d.p5,0,none⟩=some (.bool true)/\q.frozen? ⟨d.p5,0,none⟩=false)/\Hid (I 0 (q.setCell ⟨d.p5,0,none⟩ (.bool true)))) λe q ⟨f,hc,hs⟩=>by
  obtain⟨⟨M,H,O,n,r,o⟩,_⟩:=hd;have a:Chg (λk=>k=d.p5) q (q.setCell ⟨d.p5,0,none⟩ (.bool true)):=Chg.setCell (S:=λk=>k=d.p5) (p:=⟨d.p5,0,none⟩) (Chg.refl _ _) (λ_=>rfl) _;exact⟨f,⟨hs.c5.c,aD _ _ 0 _ _ hs.c5⟩,hI0 _ ⟨hs.rd.chg a (λe=>H e.symm) o,hs.c4.chg a n,aA (j:=0) hs.c5 _,hs.c6.chg a r⟩ (hc.setCell (p:=⟨d.p5,0,none⟩) (λ_=>.inr rfl) _)⟩)
 have F:decide ((N:Int)<=(L:Int))=true:=by simp;omega
 have x:decide (N<=L)=true:=by simp;omega
 have c:=aa (show N<=1000000 by omega);have B:=aa hLN;clear h h4 hI0 hLN
 go_enter func27,ntmps27
 go_wp2_with fail;refine s.mono ?_;rintro e q ⟨rfl,⟨P,K⟩,i⟩;clear s;go_wp2_with fail
 go_loopw [6] (λs6 wr=>∃m j:Nat,s6=.int .u32 (m:Int)/\Hid (m+j=N)/\Hid (I j wr)) (λs6 _=>match s6 with | .int _ k=>k.toNat|_=>0)
 case atStart=>exact⟨N,0,rfl,aa (Nat.add_zero N),i⟩
 case round =>
  obtain⟨m,j,rfl,b,g⟩:=hrel;have Q:=hI5 j wr g.out;rcases m with _|m
  ·have f:j=N:=by have:=b.out;omega
   subst f;go_wp2_with fail;go_end0;exact⟨rfl,g.out⟩
  ·have l:j<N:=by have:=b.out;omega
   have G:m<=1000000:=by have:=b.out;have:=c.out;omega
   have A:=aa (hstep j wr l g.out);have E:=hcall wr;have t:decide ((0:Int)<((m+1:Nat):Int))=true:=by simp
   go_wp2_with fail;refine A.mono ?_;rintro e z ⟨rfl,y⟩;have D:=aa y;have C:=aa (show m+(j+1)=N by have:=b.out;omega);clear y;go_wp2_with fail
   go_roundw
   case rel=>exact⟨m,j+1,by simp,C,D⟩
   case measure=>simp
end Go.Proofs.YtbeaaimcpkogcaaGreatDoor
