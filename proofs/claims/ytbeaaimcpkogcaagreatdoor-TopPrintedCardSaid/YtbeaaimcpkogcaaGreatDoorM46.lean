/- Lemmas on the way to the claim. -/
import Derived.Test.YtbeaaimcpkogcaaGreatDoorM40
import Derived.Test.YtbeaaimcpkogcaaGreatDoorM43
import Derived.Test.YtbeaaimcpkogcaaGreatDoorM44
set_option linter.unusedSimpArgs false
set_option linter.unusedVariables false
set_option maxHeartbeats 4000000
set_option maxRecDepth 100000
namespace Go.Proofs.YtbeaaimcpkogcaaGreatDoor
open Go.Proofs.Tryz Go.RowKit
theorem rJ {l:List Fun} {j:Nat} {f:Fun} (h:l[j]?=some f):eL (l.take (j+1))=eL (l.take j)++A7 f:=by
 have a:∀(l:List Fun) (f:Fun),eL (l++[f])=eL l++A7 f:=λl f=>by
  induction l with
  | nil=>simp[eL]
  | cons g l ih=>rw[bB,eL,ih,eL];simp
 rw[bT,h,cy,a]
theorem yJ:∀(l:List Fun) (j:Nat),(eL (l.take j)).length<=(eL l).length
 | [],j=>by simp
 | f::l,0=>by rw[bO,eL];simp
 | f::l,j+1=>by
  rw[gW,eL,eL];have:=yJ l j;simp only[ac];omega
theorem DD {B:Nat} {a w:World} (h:Below B a w) (n:Nat):Below B a (w.drewN n):=⟨h.os,h.tape,h.output,h.size,h.block⟩
def kU (fs:List Fun):Array Value:=if(eL fs).length<=32768 then #[.string ⟨(eL fs).toArray⟩,.int .i64 0]else #[.string ⟨#[]⟩,.int .i64 3]
theorem Ch (l : Tx) (fs : List Fun) (bs : List Nat) (w : World) (pb : Nat) (pv : Value) (hP : PrgAt w w.heap.size pb pv bs fs) (hpo : dU l (some fs)) (ht : Tabs w) (hpow : Lib.TabIs prog w "internal/strconv.uint64pow10" .u64 Lib.pow10Tab):
  Calls prog 7 #[pB pb] w λe w'=>Below w.heap.size w w'/\e=.returned (.tuple (kU fs)):=by
 obtain⟨W,H⟩:∃W,w.heap.size=W:=⟨_,rfl⟩;have C:=nV hP.funs;have d:=hpo.fun;have U:=hpo.bd;have p:=hpo.sz;have S:=hP;rw[H]at hP;have a4:(w.alloc (.cells #[.pointer none,.slice none 0 0,.int .i64 0,.bool false] 69)).heap[W]?=some (.cells #[.pointer none,.slice none 0 0,.int .i64 ((0:Nat):Int),.bool false] 69 (0,0)):=by rw[<- H];exact nL _ _
 have i:Below W w (w.alloc (.cells #[.pointer none,.slice none 0 0,.int .i64 0,.bool false] 69)):=by rw[<- H];exact az
 have ab : Lib.TabBelow prog W w "internal/strconv.uint64pow10" .u64 Lib.pow10Tab := by rw [← H]; exact Lib.tabBelow_of_tabIs hpow
 have B:WR (w.alloc (.cells #[.pointer none,.slice none 0 0,.int .i64 0,.bool false] 69)) W [] 0 none:=⟨⟨.pointer none,.slice none 0 0,a4,.inl rfl,bq _ _ _ _,rfl,λ_=>rfl⟩,ab.on i⟩;have A:PrgAt (w.alloc (.cells #[.pointer none,.slice none 0 0,.int .i64 0,.bool false] 69)) W pb pv bs fs:=hP.onA (λk o hk ho=>(i.block k hk).trans ho);obtain⟨va,vn,vc,rfl⟩:=cc hP.own.1;have ar:vn=bs.length:=eR hP.own.1 rfl;subst ar;have ay:=hP.lt;have aA:=S.lt;have HP:=aa A;have HF:=aa d;have ai:=aa U;have z:=aa p;have am:=aa hpo;have HT:=aa ht;have I:=aa i;have J:=aa C;have aC:bs.length<=32769:=by rw[C];exact d.2
 have y:=aa (show cE W (eL (fs.take 0)) 0 none (w.alloc (.cells #[.pointer none,.slice none 0 0,.int .i64 0,.bool false] 69)) (w.alloc (.cells #[.pointer none,.slice none 0 0,.int .i64 0,.bool false] 69)) by rw[bO,eL];exact cE.start B);have h:=aa B;have a:(w.alloc (.cells #[.pointer none,.slice none 0 0,.int .i64 0,.bool false] 69)).cell? ⟨pb,0,none⟩=some (.slice va bs.length vc):=(ae A.node 0).trans rfl;have HW:=aa H;clear hP S hpo ht hpow C d U p i a4 ab B A
 go_enter func7,ntmps7
 go_wp2_with fail;generalize au:w.alloc (.cells #[.pointer none,.slice none 0 0,.int .i64 0,.bool false] 69)=w1 at HP I y h a ⊢;clear au;clear H
 go_loopw [6,18] (λ_ s18 wr=>∃j:Nat,s18=.int .i64 j/\j<=bs.length/\Hid (cE W (eL (fs.take j)) 0 none w1 wr)) (λ_ s18 _=>match s18 with | .int _ j=>bs.length-j.toNat|_=>0)
 case atStart=>exact⟨0,rfl,aV _,y⟩
 case round =>
  clear y
  rename World=>w5
  obtain⟨j,rfl,hj,hr⟩:=hrel
  by_cases hlt:j<bs.length
  ·obtain⟨f,m⟩:∃f,fs[j]?=some f:=⟨_,aw (by have:=J.out;omega)⟩
   have Z:decide ((j:Int)<(bs.length:Int))=true:=by simp;omega
   have a3:bs.length-((j:Int)+1).toNat<bs.length-(j:Int).toNat:=gd hlt;have F:=hr.out.tree h.out;obtain⟨fb,a1,a0⟩:=(l9 HP.funs).2 j f m;obtain⟨g,rfl,X⟩:=eV (HP.own.on F).1 hlt;have D:w5.cell? ⟨g,j,none⟩=some (pB fb):=by rw[X,aG,a1];rfl
   have E:=aJ m;have p:=z.out f E;have a2:(eL (fs.take j)++A7 f).length<=100000000000:=by
    rw[<- rJ m];have:=yJ fs (j+1);have:=ai.out;omega
   have HC:=aa (hr.out.call (N:=18) (args:=#[pB W,pB fb]) (R:=λe=>e=.returned (.tuple #[])) λwb' h'=>Mb f w5 W _ wb' fb h' (a0.onA F) (HF.out.1 f E) (by omega) (by omega) a2);have aj:=aa (rJ m);clear hr m F a1 a0 X E p a2 a;go_wp2_with fail;refine HC.mono ?_;rintro e u ⟨rfl,h6⟩;have M:=aa (show cE W (eL (fs.take (j+1))) 0 none w1 u by rw[aj.out];exact h6);clear h6 HC D;go_wp2_with fail;exact⟨⟨j+1,by simp,hlt,M⟩,a3⟩
  ·have Z:decide ((j:Int)<(bs.length:Int))=false:=by simp;omega
   have n:cE W (eL fs) 0 none w1 w5:=by have:=hr.out;rw[cH (by have:=J.out;omega)]at this;exact this
   have V:Below W w w5:=I.trans (h.low n.1);obtain⟨G,h5⟩:∃G,WR w5 W (eL fs) 0 G:=⟨_,n.2.choose_spec.1⟩;have r:=aa (JU w5 W _ 0 G h5);have an:=aa (SF.of h5);have v:=aa V;have ak:=aa (HP.onA (n.tree h.out));have aB:=h5.lt;clear hr n V h5 a;go_wp2_with fail;refine r.mono ?_;rintro e u ⟨rfl,rfl⟩;clear r
   by_cases hlen:(eL fs).length<=32768
   ·have Y:decide ((32768:Int)<((eL fs).length:Int))=false:=by simp;omega
    have HV:=aa (show kU fs=#[.string ⟨(eL fs).toArray⟩,.int .i64 0] by unfold kU;rw[ax hlen]);have HS:=aa (ud w5 W _ an.out);have K:=aa hlen;clear hlen;go_wp2_with fail;refine HS.mono ?_;rintro e u6 ⟨rfl,b,t⟩;have ac:=aa (v.trans (b.mono (ft W)));have aD:=b.size;have al:=aa (ak.onA (λk o hk ho=>(b.block k (Nat.lt_succ_of_lt hk)).trans ho));have L:=aa (oF w u6 (by rw[HW.out];exact v.trans (b.mono (ft W))) HT.out (eL fs) (by have:=K.out;omega));have Q:=aa t;clear HS b t;go_wp2_with fail;refine L.mono ?_;rintro e u7 ⟨c,q,hq,a9⟩;have ao:=am.trip K.out hq;subst ao;obtain⟨qb,rfl,aq⟩:=a9;obtain⟨_,qv,av,a7,a8,a6⟩:=aq;have aE:=c.size;have ad:=aa (ac.trans (c.mono (by omega)));have x:=aa (al.onA (aX.below c));have s:=aa (Q.below c);obtain⟨p7,v7,d7,a5,_⟩:=s.out;have c3:u7.cell? ⟨W,3,none⟩=some (.bool false):=(ae a5 3).trans rfl;have P:=aa (EV u7 _ _ pb qb _ qv bs av fs x.node a7 x.own a8 x.funs a6 (λf m=>⟨HF.out.1 f m,by have:=(z.out f m).1;omega,by have:=(z.out f m).2;omega⟩) (by have:=HF.out.2;omega));clear L c hq a7 a8 a6 a5;go_wp2_with fail;refine P.mono ?_;rintro e u8 ⟨rfl,k,rfl⟩;have O:=aa (ud (u7.drewN k) W _ (s.below ⟨rfl,rfl,rfl,ag _,λ_ _=>rfl⟩));have af:=aa (show Below W w (u7.drewN k) from DD ad.out k);clear P c3;go_wp2_with fail;refine O.mono ?_;rintro e u9 ⟨rfl,T,_⟩;have ah:=aa (af.trans (T.mono (ft W)));clear T O;go_wp2_with fail;go_ret2;exact⟨by rw[HW.out];exact ah.out,by rw[HV.out];rfl⟩
   ·have Y:decide ((32768:Int)<((eL fs).length:Int))=true:=by simp;omega
    have HV:=aa (show kU fs=#[.string ⟨#[]⟩,.int .i64 3] by unfold kU;rw[ap hlen]);clear hlen;go_wp2_with fail;go_ret2;exact⟨by rw[HW.out];exact v.out,by rw[HV.out];rfl⟩
end Go.Proofs.YtbeaaimcpkogcaaGreatDoor
