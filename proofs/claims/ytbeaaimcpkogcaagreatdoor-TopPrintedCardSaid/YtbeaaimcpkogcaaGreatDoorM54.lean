/- Lemmas on the way to the claim. -/
import Derived.Test.YtbeaaimcpkogcaaGreatDoorM46
import Derived.Test.YtbeaaimcpkogcaaGreatDoorM49
set_option linter.unusedSimpArgs false
set_option linter.unusedVariables false
set_option maxHeartbeats 8000000
set_option maxRecDepth 100000
namespace Go.Proofs.YtbeaaimcpkogcaaGreatDoor
open Go.Proofs.Tryz Go.RowKit
def Mk6:Prop:=∀w,Lay w->Calls prog 6 #[] w λe w'=>Below w.heap.size w w'/\e=.returned (.bool true)
theorem Am (H6 : Mk6) (w : World) (l : Tx) (hL : Lay w) (hpow : Lib.TabIs prog w "internal/strconv.uint64pow10" .u64 Lib.pow10Tab):
  Calls prog 3 #[.string ⟨l.toArray⟩] w λe w'=>Below w.heap.size w w'/\e=.returned (.bool true):=by
 have Z:(⟨l.toArray⟩:ByteArray).size=l.length:=oB l;obtain⟨G,T,K⟩:∃G:Tx,(⟨l.toArray⟩:ByteArray).extract 0 (min (l.length:Int) 3000).toNat=⟨G.toArray⟩/\G.length<=3000:=
  ⟨_,kM l _,by rw[bN];omega⟩
 have n:=aa hL;have S:=aa hpow;have Q:=aa K;have W:=aa (oF w w (ai _ _) hL.tabs G (by omega));have m:=aa H6;clear hL hpow K H6
 go_enter func3,ntmps3
 go_wp2_with fail
 try rw[T]
 refine W.mono ?_;rintro e u ⟨Y,q,hq,p⟩;have o:=aa Y;have P:=aa hq;clear Y hq W;cases q with
 | none =>
  obtain⟨f,rfl,_⟩:=p;have y:=aa (m.out u (n.below o.out));go_wp2_with fail;refine y.mono ?_;rintro e z ⟨hz,rfl⟩;have HZ:=aa (o.trans (hz.mono o.size));clear hz;go_wp2_with fail;go_ret;exact⟨HZ.out,rfl⟩
 | some fs =>
  obtain⟨b,rfl,M⟩:=p;obtain⟨pv,bs,X,h2⟩:=(PgOk.of M (n.below o.out)).ex;have J:=aa (Ch G fs bs u b pv X P.out (n.below o.out).tabs (Lib.tabBelow_of_tabIs S.out u o.out));clear M X h2;go_wp2_with fail;refine J.mono ?_;rintro e v ⟨L,rfl⟩;have E:=aa (o.trans (L.mono o.size));clear L J
  by_cases hlong:(eL fs).length<=32768
  ·have h:kU fs=#[.string ⟨(eL fs).toArray⟩,.int .i64 0]:=ax hlong
   rw[h];have x:=aa hlong;obtain⟨U,D⟩:∃U,eL fs=U:=⟨_,rfl⟩;rw[D];have B:=aa D;have H:=aa (pU v G 64 (by omega) (by omega) (n.below E.out) (by have:=Q.out;omega));clear hlong h D;go_wp2_with fail;refine H.mono ?_;rintro e z1 ⟨O,q1,N,d⟩;obtain rfl:=N.det P.out;have g:=aa (E.trans (O.mono E.size));have I:=aa (pU z1 U 64 (by omega) (by omega) (n.below g.out) (by rw[<- B.out];have:=x.out;omega));clear O N H;unfold jD at d;rw[aj]at d;cases hok:j9 64 fs with
   | none =>
    rw[hok]at d;obtain⟨f1,rfl⟩:=d;have A:=aa hok;clear hok;go_wp2_with fail;refine I.mono ?_;rintro e V ⟨j,q2,i,a⟩;obtain rfl:=P.trip x.out (by rw[B.out];exact i);unfold jD at a;rw[aj,A.out]at a;obtain⟨f2,rfl⟩:=a;have c:=aa (g.trans (j.mono g.size));have y:=aa (m.out V.drew (n.below c.drew));clear j i;go_wp2_with fail
    go_region_held3 (λ_=>True) (exact trivial) (first|(go_at_call 6;refine y.mono ?_;rintro e z3 ⟨k,rfl⟩))
    all_goals go_wp2_with fail
    all_goals go_ret
    all_goals exact⟨c.drew.trans (k.mono c.size),rfl⟩
   | some r =>
    rw[hok]at d;have s:e=.returned (.tuple #[.string ⟨(mv 64 r.2 r.1).toArray⟩,.nilIface]):=d;obtain⟨F,C⟩:∃F,mv 64 r.2 r.1=F:=⟨_,rfl⟩;rw[C]at s;have R:=aa C;have A:=aa hok;clear hok d C;subst s;go_wp2_with fail;refine I.mono ?_;rintro e V ⟨j,q2,i,a⟩;obtain rfl:=P.trip x.out (by rw[B.out];exact i);unfold jD at a;rw[aj,A.out]at a;have t:e=.returned (.tuple #[.string ⟨(mv 64 r.2 r.1).toArray⟩,.nilIface]):=a;rw[R.out]at t;have c:=aa (g.trans (j.mono g.size));have y:=aa (m.out V.drew (n.below c.drew));clear j i a;subst t;have a0:((⟨F.toArray⟩:ByteArray)==⟨F.toArray⟩)=true:=by show(F.toArray==F.toArray)=true;exact beq_self_eq_true _
    go_wp2_with fail
    go_region_held3 (λ_=>True) (exact trivial) (first|(go_at_call 6;refine y.mono ?_;rintro e z3 ⟨k,rfl⟩))
    all_goals go_wp2_with fail
    all_goals go_ret
    all_goals exact⟨c.drew.trans (k.mono c.size),rfl⟩
  ·have h:kU fs=#[.string ⟨#[]⟩,.int .i64 3]:=ap hlong
   rw[h];have y:=aa (m.out v (n.below E.out));clear hlong h
   go_wp2_with (first|(go_at_call 6;refine y.mono ?_;rintro e z3 ⟨k,rfl⟩))
   go_ret;exact⟨E.trans (k.mono E.size),rfl⟩
end Go.Proofs.YtbeaaimcpkogcaaGreatDoor
