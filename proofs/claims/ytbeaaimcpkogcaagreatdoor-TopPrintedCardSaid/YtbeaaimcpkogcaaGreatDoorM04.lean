/- Lemmas on the way to the claim. -/
import Derived.Test.YtbeaaimcpkogcaaGreatDoorRows
import Derived.Shelf.Abstract
import Derived.BigQuiet
import Derived.Test.YtbeaaimcpkogcaaGreatDoorM01
set_option linter.unusedSimpArgs false
set_option linter.unusedVariables false
set_option maxHeartbeats 4000000
namespace Go.Proofs.YtbeaaimcpkogcaaGreatDoor
open Go.Proofs.Tryz Go.RowKit
variable {w w0:World} {W a b c m op:Int} {B C D k n p:Nat} {x:Bool} {S:ByteArray}
section
open Go.Shelf
def uj:Array Value:=(Gt.flatMap λr=>[Value.string ⟨r.1⟩,Value.string ⟨r.2⟩]).toArray
theorem Le:∀k:Nat,k<54->uj[k*2]?=some (.string (nmN k))/\uj[k*2+1]?=some (.string (fmN k))
 | 0,_=>⟨rfl,rfl⟩
 | 1,_=>⟨rfl,rfl⟩
 | 2,_=>⟨rfl,rfl⟩
 | 3,_=>⟨rfl,rfl⟩
 | 4,_=>⟨rfl,rfl⟩
 | 5,_=>⟨rfl,rfl⟩
 | 6,_=>⟨rfl,rfl⟩
 | 7,_=>⟨rfl,rfl⟩
 | 8,_=>⟨rfl,rfl⟩
 | 9,_=>⟨rfl,rfl⟩
 | 10,_=>⟨rfl,rfl⟩
 | 11,_=>⟨rfl,rfl⟩
 | 12,_=>⟨rfl,rfl⟩
 | 13,_=>⟨rfl,rfl⟩
 | 14,_=>⟨rfl,rfl⟩
 | 15,_=>⟨rfl,rfl⟩
 | 16,_=>⟨rfl,rfl⟩
 | 17,_=>⟨rfl,rfl⟩
 | 18,_=>⟨rfl,rfl⟩
 | 19,_=>⟨rfl,rfl⟩
 | 20,_=>⟨rfl,rfl⟩
 | 21,_=>⟨rfl,rfl⟩
 | 22,_=>⟨rfl,rfl⟩
 | 23,_=>⟨rfl,rfl⟩
 | 24,_=>⟨rfl,rfl⟩
 | 25,_=>⟨rfl,rfl⟩
 | 26,_=>⟨rfl,rfl⟩
 | 27,_=>⟨rfl,rfl⟩
 | 28,_=>⟨rfl,rfl⟩
 | 29,_=>⟨rfl,rfl⟩
 | 30,_=>⟨rfl,rfl⟩
 | 31,_=>⟨rfl,rfl⟩
 | 32,_=>⟨rfl,rfl⟩
 | 33,_=>⟨rfl,rfl⟩
 | 34,_=>⟨rfl,rfl⟩
 | 35,_=>⟨rfl,rfl⟩
 | 36,_=>⟨rfl,rfl⟩
 | 37,_=>⟨rfl,rfl⟩
 | 38,_=>⟨rfl,rfl⟩
 | 39,_=>⟨rfl,rfl⟩
 | 40,_=>⟨rfl,rfl⟩
 | 41,_=>⟨rfl,rfl⟩
 | 42,_=>⟨rfl,rfl⟩
 | 43,_=>⟨rfl,rfl⟩
 | 44,_=>⟨rfl,rfl⟩
 | 45,_=>⟨rfl,rfl⟩
 | 46,_=>⟨rfl,rfl⟩
 | 47,_=>⟨rfl,rfl⟩
 | 48,_=>⟨rfl,rfl⟩
 | 49,_=>⟨rfl,rfl⟩
 | 50,_=>⟨rfl,rfl⟩
 | 51,_=>⟨rfl,rfl⟩
 | 52,_=>⟨rfl,rfl⟩
 | 53,_=>⟨rfl,rfl⟩
 | k+54,h=>by omega
theorem KM:∀k:Nat,k<54->∀w:World,(Instr.index 237 (.agg uj) (.int .i64 (k:Int))).run prog w=.ok (.agg #[.string (nmN k),.string (fmN k)]) w
 | 0,_=>λ_=>by kernel_rfl
 | 1,_=>λ_=>by kernel_rfl
 | 2,_=>λ_=>by kernel_rfl
 | 3,_=>λ_=>by kernel_rfl
 | 4,_=>λ_=>by kernel_rfl
 | 5,_=>λ_=>by kernel_rfl
 | 6,_=>λ_=>by kernel_rfl
 | 7,_=>λ_=>by kernel_rfl
 | 8,_=>λ_=>by kernel_rfl
 | 9,_=>λ_=>by kernel_rfl
 | 10,_=>λ_=>by kernel_rfl
 | 11,_=>λ_=>by kernel_rfl
 | 12,_=>λ_=>by kernel_rfl
 | 13,_=>λ_=>by kernel_rfl
 | 14,_=>λ_=>by kernel_rfl
 | 15,_=>λ_=>by kernel_rfl
 | 16,_=>λ_=>by kernel_rfl
 | 17,_=>λ_=>by kernel_rfl
 | 18,_=>λ_=>by kernel_rfl
 | 19,_=>λ_=>by kernel_rfl
 | 20,_=>λ_=>by kernel_rfl
 | 21,_=>λ_=>by kernel_rfl
 | 22,_=>λ_=>by kernel_rfl
 | 23,_=>λ_=>by kernel_rfl
 | 24,_=>λ_=>by kernel_rfl
 | 25,_=>λ_=>by kernel_rfl
 | 26,_=>λ_=>by kernel_rfl
 | 27,_=>λ_=>by kernel_rfl
 | 28,_=>λ_=>by kernel_rfl
 | 29,_=>λ_=>by kernel_rfl
 | 30,_=>λ_=>by kernel_rfl
 | 31,_=>λ_=>by kernel_rfl
 | 32,_=>λ_=>by kernel_rfl
 | 33,_=>λ_=>by kernel_rfl
 | 34,_=>λ_=>by kernel_rfl
 | 35,_=>λ_=>by kernel_rfl
 | 36,_=>λ_=>by kernel_rfl
 | 37,_=>λ_=>by kernel_rfl
 | 38,_=>λ_=>by kernel_rfl
 | 39,_=>λ_=>by kernel_rfl
 | 40,_=>λ_=>by kernel_rfl
 | 41,_=>λ_=>by kernel_rfl
 | 42,_=>λ_=>by kernel_rfl
 | 43,_=>λ_=>by kernel_rfl
 | 44,_=>λ_=>by kernel_rfl
 | 45,_=>λ_=>by kernel_rfl
 | 46,_=>λ_=>by kernel_rfl
 | 47,_=>λ_=>by kernel_rfl
 | 48,_=>λ_=>by kernel_rfl
 | 49,_=>λ_=>by kernel_rfl
 | 50,_=>λ_=>by kernel_rfl
 | 51,_=>λ_=>by kernel_rfl
 | 52,_=>λ_=>by kernel_rfl
 | 53,_=>λ_=>by kernel_rfl
 | k+54,h=>by omega
def Tab (w:World):Prop:=1<w.heap.size/\∃t fr,w.heap[1]?=some (.cells uj t fr)
theorem Tab.below {w':World} (h:Tab w) (hb:Below w.heap.size w w'):Tab w':=by
 obtain⟨a,t,b,c⟩:=h;exact⟨bu a hb.size,t,b,by rw[hb.block 1 a];exact c⟩
theorem Tab.cell (h:Tab w) (k:Nat) (hk:k<54):w.cell? ⟨1,k*2,none⟩=some (.string (nmN k))/\w.cell? ⟨1,k*2+1,none⟩=some (.string (fmN k)):=by
 obtain⟨_,t,a,b⟩:=h;obtain⟨c,d⟩:=Le k hk;exact⟨(gN w 1 _ _ t a b).trans c,(gN w 1 _ _ t a b).trans d⟩
theorem CC (h:¬(0<=op/\op<=53)):nm op=⟨#[]⟩:=by unfold nm;rw[ap h]
theorem Dj (h:¬(0<=op/\op<=53)):fm op=⟨#[]⟩:=by unfold fm;rw[ap h]
theorem yS (h:k<54):nm (k:Int)=nmN k:=by unfold nm;rw[ax (by omega)];rfl
theorem GK (h:k<54):fm (k:Int)=fmN k:=by unfold fm;rw[ax (by omega)];rfl
theorem KC (w0 w:World) (h:Below w0.heap.size w0 w) (ht:Tab w0) (op:Int):
  Calls prog 93 #[.int .i64 op] w λe w'=>e=.returned (.agg #[.string (nm op),.string (fm op)])/\Below w0.heap.size w0 w':=by
 have b:=ht.below h
 by_cases h1:op<0
 ·rw[CC (by omega),Dj (by omega)]
  go_enter func93,ntmps93
  go_wp2
  refine aN (v:=.agg #[.string ⟨#[]⟩,.string ⟨#[]⟩]) (by simp[results,Tryz.results93,go_sem]) rfl ⟨rfl,?_⟩;exact h.alloc h.size _
 by_cases h2:53<op
 ·rw[CC (by omega),Dj (by omega)]
  go_enter func93,ntmps93
  go_wp2
  refine aN (v:=.agg #[.string ⟨#[]⟩,.string ⟨#[]⟩]) (by simp[results,Tryz.results93,go_sem]) rfl ⟨rfl,?_⟩;exact h.alloc h.size _
 obtain⟨k,rfl⟩:∃k:Nat,op=k:=⟨op.toNat,by omega⟩;have a:k<54:=by omega
 rw[yS a,GK a];obtain⟨c1,c2⟩:=b.cell k a;have c:=b.1;clear b
 go_enter func93,ntmps93
 go_wp2
 refine aN (v:=.agg #[.string (nmN k),.string (fmN k)]) (by simp[results,Tryz.results93,go_sem]) rfl ⟨rfl,?_⟩;exact h.alloc h.size _
theorem KZ (a b:Value) (w:World):(Instr.field 182 (.agg #[a,b]) 0).run prog w=.ok a w:=by kernel_rfl
theorem KY (a b:Value) (w:World):(Instr.field 182 (.agg #[a,b]) 1).run prog w=.ok b w:=by kernel_rfl
theorem CF (w0 w:World) (h:Below w0.heap.size w0 w) (ht:Tab w0) (op:Int):
  Calls prog 39 #[.int .i64 op] w λe w'=>e=.returned (.string (nm op))/\Below w0.heap.size w0 w':=by
 have b:=KZ
 go_enter func39,ntmps39
 go_wp2_with (go_at_call 93;refine(KC w0 w h ht op).mono ?_;rintro e c ⟨rfl,a⟩)
 go_ret;exact⟨rfl,by assumption⟩
theorem tv (w0 w:World) (h:Below w0.heap.size w0 w) (ht:Tab w0) (op:Int):
  Calls prog 40 #[.int .i64 op] w λe w'=>e=.returned (.string (fm op))/\Below w0.heap.size w0 w':=by
 have b:=KY
 go_enter func40,ntmps40
 go_wp2_with (go_at_call 93;refine(KC w0 w h ht op).mono ?_;rintro e c ⟨rfl,a⟩)
 go_ret;exact⟨rfl,by assumption⟩
theorem IP (h:¬(1<=op/\op<=53)):nm op=⟨#[]⟩:=by
 by_cases h0:op=0
 ·subst h0;rfl
 ·exact CC (by omega)
theorem Dk:∀k:Nat,k<54->fmN k=⟨#[97,105]⟩\/fmN k=⟨#[97,106]⟩\/fmN k=⟨#[97,98,99]⟩\/fmN k=⟨#[97,98,105]⟩\/fmN k=⟨#[97,98]⟩\/fmN k=⟨#[]⟩\/fmN k=⟨#[105]⟩
 | 0,_=>.inr (.inr (.inr (.inr (.inr (.inl rfl)))))
 | 1,_=>.inl rfl
 | 2,_=>.inr (.inl rfl)
 | 3,_=>.inr (.inr (.inl rfl))
 | 4,_=>.inr (.inr (.inl rfl))
 | 5,_=>.inr (.inr (.inl rfl))
 | 6,_=>.inr (.inr (.inl rfl))
 | 7,_=>.inr (.inr (.inl rfl))
 | 8,_=>.inr (.inr (.inl rfl))
 | 9,_=>.inr (.inr (.inl rfl))
 | 10,_=>.inr (.inr (.inl rfl))
 | 11,_=>.inr (.inr (.inl rfl))
 | 12,_=>.inr (.inr (.inl rfl))
 | 13,_=>.inr (.inr (.inl rfl))
 | 14,_=>.inr (.inr (.inl rfl))
 | 15,_=>.inr (.inr (.inl rfl))
 | 16,_=>.inr (.inr (.inr (.inl rfl)))
 | 17,_=>.inr (.inr (.inr (.inl rfl)))
 | 18,_=>.inr (.inr (.inr (.inl rfl)))
 | 19,_=>.inr (.inr (.inr (.inl rfl)))
 | 20,_=>.inr (.inr (.inr (.inl rfl)))
 | 21,_=>.inr (.inr (.inr (.inl rfl)))
 | 22,_=>.inr (.inr (.inr (.inl rfl)))
 | 23,_=>.inr (.inr (.inr (.inl rfl)))
 | 24,_=>.inr (.inr (.inr (.inl rfl)))
 | 25,_=>.inr (.inr (.inr (.inl rfl)))
 | 26,_=>.inr (.inr (.inr (.inl rfl)))
 | 27,_=>.inr (.inr (.inr (.inl rfl)))
 | 28,_=>.inr (.inr (.inr (.inl rfl)))
 | 29,_=>.inr (.inl rfl)
 | 30,_=>.inr (.inr (.inr (.inr (.inl rfl))))
 | 31,_=>.inr (.inr (.inr (.inr (.inl rfl))))
 | 32,_=>.inr (.inr (.inl rfl))
 | 33,_=>.inr (.inr (.inr (.inl rfl)))
 | 34,_=>.inr (.inr (.inl rfl))
 | 35,_=>.inr (.inr (.inl rfl))
 | 36,_=>.inr (.inr (.inl rfl))
 | 37,_=>.inr (.inr (.inl rfl))
 | 38,_=>.inr (.inr (.inl rfl))
 | 39,_=>.inr (.inr (.inl rfl))
 | 40,_=>.inr (.inr (.inl rfl))
 | 41,_=>.inr (.inr (.inr (.inr (.inl rfl))))
 | 42,_=>.inr (.inr (.inr (.inr (.inl rfl))))
 | 43,_=>.inr (.inr (.inr (.inr (.inl rfl))))
 | 44,_=>.inr (.inr (.inr (.inr (.inl rfl))))
 | 45,_=>.inr (.inr (.inr (.inr (.inl rfl))))
 | 46,_=>.inr (.inr (.inr (.inr (.inl rfl))))
 | 47,_=>.inr (.inr (.inr (.inr (.inl rfl))))
 | 48,_=>.inr (.inr (.inr (.inr (.inl rfl))))
 | 49,_=>.inr (.inl rfl)
 | 50,_=>.inr (.inr (.inr (.inr (.inl rfl))))
 | 51,_=>.inr (.inr (.inr (.inr (.inr (.inl rfl)))))
 | 52,_=>.inr (.inr (.inr (.inr (.inr (.inr rfl)))))
 | 53,_=>.inr (.inr (.inr (.inr (.inr (.inl rfl)))))
 | k+54,h=>by omega
theorem kL (op:Int):fm op=⟨#[97,105]⟩\/fm op=⟨#[97,106]⟩\/fm op=⟨#[97,98,99]⟩\/fm op=⟨#[97,98,105]⟩\/fm op=⟨#[97,98]⟩\/fm op=⟨#[]⟩\/fm op=⟨#[105]⟩:=by
 by_cases h:0<=op/\op<=53
 ·obtain⟨k,rfl⟩:∃k:Nat,op=k:=⟨op.toNat,by omega⟩
  rw[GK (by omega)];exact Dk k (by omega)
 ·rw[Dj h];exact .inr (.inr (.inr (.inr (.inr (.inl rfl)))))
def mF (x:ByteArray):Nat->Nat->Int
 | 0,_=>0
 | f+1,k=>if((nmN k).toList==x.toList)=true then k else mF x f (k+1)
def JJ (x:ByteArray):Int:=mF x 53 1
theorem Cy:∀(x:ByteArray) (f k:Nat),(∀j,k<=j->j<k+f->((nmN j).toList==x.toList)=false)->mF x f k=0
 | _,0,_,_=>rfl
 | x,f+1,k,h=>by
  rw[mF,ap (by rw[h k (ag _) (by omega)];simp)];exact Cy x f (k+1) λj h1 h2=>h j (by omega) (by omega)
theorem CB:∀j:Nat,1<=j->j<54->(nmN j).toList.isEmpty=false:=by
 intro j a b;rw[ByteArray.toList_eq];have:∀j:Fin 54,1<=j.val->(nmN j.val).data.toList.isEmpty=false:=by decide
 exact this ⟨j,b⟩ a
theorem MT:(nmN 0).toList=[]:=by rw[ByteArray.toList_eq];rfl
theorem As {x:ByteArray} (h:x.toList.isEmpty=true):JJ x=0:=by
 refine Cy x 53 1 λj h1 h2=>?_;have b:x.toList=[]:=by simpa using h
 have:=CB j h1 (by omega);rw[b];cases hq:(nmN j).toList with
 | nil=>rw[hq]at this;simp at this
 | cons a l=>rfl
theorem Cv {x:ByteArray} (h:x.toList.isEmpty=false):JJ x=mF x 54 0:=by
 rw[mF,ap]
 ·rfl
 ·rw[MT]
  cases hq:x.toList with
  | nil=>rw[hq]at h;simp at h
  | cons a l=>simp
theorem Md (w0 w:World) (h:Below w0.heap.size w0 w) (ht:Tab w0) (x:ByteArray):
  Calls prog 86 #[.string x] w λe w'=>e=.returned (.int .i64 (JJ x))/\Below w0.heap.size w0 w':=by
 have p:=ht.below h;obtain⟨r,t,l,m⟩:=p
 by_cases hx:x.toList.isEmpty=true
 ·have a:=aa (As hx)
  have c:(!x.toList.isEmpty)=false:=by rw[hx];rfl
  go_enter func86,ntmps86
  go_wp2_with (refine wpList_load_row rfl 237 _ rfl 1 rfl t _ l _ m underlying237 rfl (by kernel_rfl) ?_)
  go_loopw [6] (λi wr=>∃k:Nat,k<=54/\i=.int .i64 k/\Below w0.heap.size w0 wr) (λi _=>54-(intOf i).toNat)
  case atStart=>exact⟨0,by omega,rfl,h⟩
  case round =>
   obtain⟨k,j,rfl,b⟩:=hrel
   by_cases hk:k=54
   ·subst hk
    go_wp2
    go_ret;exact⟨by rw[a.out];rfl,b⟩
   ·have d:=KM k (by omega)
    generalize nmN k=y at d;generalize fmN k=z at d;generalize uj=cs at d
    go_wp2
    all_goals
     go_roundw
     case rel=>exact⟨k+1,by omega,by go_num,b.alloc b.size _⟩
     case measure=>simp[intOf];omega
 have c:x.toList.isEmpty=false:=by simpa using hx
 have a:=Cv c;have q:(!x.toList.isEmpty)=true:=by rw[c];rfl
 clear hx c
 go_enter func86,ntmps86
 go_wp2_with (refine wpList_load_row rfl 237 _ rfl 1 rfl t _ l _ m underlying237 rfl (by kernel_rfl) ?_)
 go_loopw [6] (λi wr=>∃k:Nat,k<=54/\i=.int .i64 k/\JJ x=mF x (54-k) k/\Below w0.heap.size w0 wr) (λi _=>54-(intOf i).toNat)
 case atStart=>exact⟨0,by omega,rfl,a,h⟩
 case round =>
  obtain⟨k,j,rfl,a,b⟩:=hrel
  by_cases hk:k=54
  ·subst hk
   have g:=aa a;clear a
   go_wp2
   go_ret;exact⟨by rw[g.out];rfl,b⟩
  ·obtain⟨f,o⟩:∃f,54-k=f+1:=⟨53-k,by omega⟩
   rw[o,mF]at a;have d:=KM k (by omega);generalize nmN k=y at a d;generalize fmN k=z at d;generalize uj=cs at d
   by_cases hc:(y.toList==x.toList)=true
   ·rw[ax hc]at a
    have g:=aa a;clear a
    go_wp2
    go_ret;exact⟨by rw[g.out];rfl,b.alloc b.size _⟩
   ·rw[ap hc]at a
    have g:=aa a;have n:(y.toList==x.toList)=false:=by simpa using hc
    clear a hc
    go_wp2
    go_roundw
    case rel=>exact⟨k+1,by omega,by go_num,by rw[g.out];congr 1;omega,b.alloc b.size _⟩
    case measure=>simp[intOf];omega
theorem qZ {a:World} (h:Below B a w) (n:Nat):Below B a (w.drewN n):=⟨h.os,h.tape,h.output,h.size,h.block⟩
theorem AR {a:World} (h:Below B a w):Below B a w.drew:=⟨h.os,h.tape,h.output,h.size,h.block⟩
abbrev fP (op a b c m:Int):Array Value:=#[.int .i64 op,.int .i64 a,.int .i64 b,.int .i64 c,.int .i64 m]
structure St (w0 w:World) (B C D:Nat) (o:Obj) (op a b c m W:Int) (x:Bool):Prop where
 lt:B<C
 le:w0.heap.size<=B
 hi:w.heap[B]?=some (.cells (fP op a b c m) 99 (0,0))
 hw:w.heap[C]?=some (.cells #[.int .u32 W] 40 (0,0))
 hx:w.heap[C+1]?=some (.cells #[.bool x] 4 (0,0))
 ltD:C+1<D
 it:w.heap[D]?=some o
 bel:Below w0.heap.size w0 w
theorem ij {g:Nat} {cs:Array Value} {t:TypeId} (h:w.heap[g]?=some (.cells cs t (0,0))) (j:Nat):w.frozen? ⟨g,j,none⟩=false:=by simp[World.frozen?,h]
theorem St.put {o:Obj} {op' a' b' c' m':Int} (h:St w0 w B C D o op a b c m W x) (j:Nat) (W' W2:Int) (x' x2:Bool) (nq:Nat)
 (hj:(fP op a b c m).setIfInBounds j (.int .i64 0)=fP op' a' b' c' m') (eW:W'=W2) (eX:x'=x2):
  St w0 (((((w.drewN nq).setCell ⟨C+1,0,none⟩ (.bool x')).setCell ⟨C,0,none⟩ (.int .u32 W')).setCell ⟨B,j,none⟩ (.int .i64 0)).drew) B C D o op' a' b' c' m' W2 x2:=by
 subst eW eX;have f:=h.lt;have d:=h.ltD;refine⟨h.lt,h.le,?_,?_,?_,h.ltD,?_,?_⟩
 ·show(World.setCell _ _ _).heap[B]?=_
  rw[heap_setCell_same _ B j (fP op a b c m) 99,hj];rw[bW _ _ _ _ (show B≠C by omega),bW _ _ _ _ (show B≠C+1 by omega)];exact h.hi
 ·show(World.setCell _ _ _).heap[C]?=_
  rw[bW _ _ _ _ (show C≠B by omega)];refine iw (v:=.int .u32 W) ?_;rw[bW _ _ _ _ (show C≠C+1 by omega)];exact h.hw
 ·show(World.setCell _ _ _).heap[C+1]?=_
  rw[bW _ _ _ _ (show C+1≠B by omega),bW _ _ _ _ (show C+1≠C by omega)];exact iw (v:=.bool x) h.hx
 ·show(World.setCell _ _ _).heap[D]?=_
  rw[bW _ _ _ _ (show D≠B by omega),bW _ _ _ _ (show D≠C by omega),bW _ _ _ _ (show D≠C+1 by omega)];exact h.it
 ·have e:=h.le
  exact AR ((((qZ h.bel nq).setCell (show w0.heap.size<=C+1 by omega) _).setCell (show w0.heap.size<=C by omega) _).setCell (show w0.heap.size<=B by omega) _)
theorem M2 (W v:Int) (hW:W%16777216=0) (hW0:0<=W) (hW1:W<4294967296):bits .or .u32 W (bits .and .u32 (v%4294967296) 15*1048576%4294967296)=W+v%16*1048576:=by
 have c:0<=v%4294967296:=by omega
 have d:v%4294967296<4294967296:=by omega
 have e:bits .and .u32 (v%4294967296) 15=v%16:=by
  rw[u32_and _ _ c d (by omega) (by omega)];rw[show(15:Int).toNat=15 from rfl,nat_mask4];omega
 rw[e];obtain⟨k,f⟩:∃k,k=v%16*1048576:=⟨_,rfl⟩;have a:0<=k:=by omega
 have g:k<16777216:=by omega
 have b:k%4294967296=k:=by omega
 rw[<- f,b,u32_or _ _ hW0 hW1 a (by omega),nat_join 24 W.toNat k.toNat (by simp only[Nat.reducePow];omega) (by simp only[Nat.reducePow];omega)];omega
theorem Ca (w0 w:World) (B C D:Nat) (o:Obj) (op a b c m W:Int) (x:Bool) (h:St w0 w B C D o op a b c m W x) (hW:W%16777216=0) (hW0:0<=W) (hW1:W<4294967296):
  Calls prog 100 #[.pointer (some ⟨B,1,none⟩),.int .i64 20,.int .i64 4,.bool false,.pointer (some ⟨C+1,0,none⟩),.pointer (some ⟨C,0,none⟩)] w λe w' =>
   e=.returned (.tuple #[])/\St w0 w' B C D o op 0 b c m (W+a%16*1048576) (x||(decide (a<0)||decide (16<=a))):=by
 have c1:w.cell? ⟨B,1,none⟩=some (.int .i64 a):=(ae h.hi 1).trans rfl;have d:=bp h.hw;have f:=bp h.hx;have g:=ij h.hi 1;have i:=dm h.hw;have j:=dm h.hx;have k:=h.lt;have H:=aa h;have A:=aa (M2 W a hW hW0 hW1);clear h;cases x with
 | true =>
  go_enter func100,ntmps100
  go_wp2
  go_quiet (fail)
  go_wp2
  skip
  skip
  go_region
  all_goals go_wp2
  go_end0;exact⟨rfl,H.put 1 _ _ _ _ _ rfl A.out rfl⟩
 | false =>
  go_enter func100,ntmps100
  go_wp2
  go_quiet (fail)
  go_wp2
  skip
  skip
  all_goals go_region
  all_goals go_wp2
  all_goals go_end0
  ·exact⟨rfl,H.put 1 _ _ _ _ _ rfl A.out (by simp)⟩
  ·exact⟨rfl,H.put 1 _ _ _ _ _ rfl A.out (by simp[*])⟩
theorem M1 (W v:Int) (hW:W%1048576=0) (hW0:0<=W) (hW1:W<4294967296):bits .or .u32 W (bits .and .u32 (v%4294967296) 15*65536%4294967296)=W+v%16*65536:=by
 have c:0<=v%4294967296:=by omega
 have d:v%4294967296<4294967296:=by omega
 have e:bits .and .u32 (v%4294967296) 15=v%16:=by
  rw[u32_and _ _ c d (by omega) (by omega)];rw[show(15:Int).toNat=15 from rfl,nat_mask4];omega
 rw[e];obtain⟨k,f⟩:∃k,k=v%16*65536:=⟨_,rfl⟩;have a:0<=k:=by omega
 have g:k<1048576:=by omega
 have b:k%4294967296=k:=by omega
 rw[<- f,b,u32_or _ _ hW0 hW1 a (by omega),nat_join 20 W.toNat k.toNat (by simp only[Nat.reducePow];omega) (by simp only[Nat.reducePow];omega)];omega
theorem Iw (w0 w:World) (B C D:Nat) (o:Obj) (op a b c m W:Int) (x:Bool) (h:St w0 w B C D o op a b c m W x) (hW:W%1048576=0) (hW0:0<=W) (hW1:W<4294967296):
  Calls prog 100 #[.pointer (some ⟨B,2,none⟩),.int .i64 16,.int .i64 4,.bool false,.pointer (some ⟨C+1,0,none⟩),.pointer (some ⟨C,0,none⟩)] w λe w' =>
   e=.returned (.tuple #[])/\St w0 w' B C D o op a 0 c m (W+b%16*65536) (x||(decide (b<0)||decide (16<=b))):=by
 have c1:w.cell? ⟨B,2,none⟩=some (.int .i64 b):=(ae h.hi 2).trans rfl;have d:=bp h.hw;have f:=bp h.hx;have g:=ij h.hi 2;have i:=dm h.hw;have j:=dm h.hx;have k:=h.lt;have H:=aa h;have A:=aa (M1 W b hW hW0 hW1);clear h;cases x with
 | true =>
  go_enter func100,ntmps100
  go_wp2
  go_quiet (fail)
  go_wp2
  skip
  skip
  go_region
  all_goals go_wp2
  go_end0;exact⟨rfl,H.put 2 _ _ _ _ _ rfl A.out rfl⟩
 | false =>
  go_enter func100,ntmps100
  go_wp2
  go_quiet (fail)
  go_wp2
  skip
  skip
  all_goals go_region
  all_goals go_wp2
  all_goals go_end0
  ·exact⟨rfl,H.put 2 _ _ _ _ _ rfl A.out (by simp)⟩
  ·exact⟨rfl,H.put 2 _ _ _ _ _ rfl A.out (by simp[*])⟩
theorem M0 (W v:Int) (hW:W%65536=0) (hW0:0<=W) (hW1:W<4294967296):bits .or .u32 W (bits .and .u32 (v%4294967296) 15*4096%4294967296)=W+v%16*4096:=by
 have c:0<=v%4294967296:=by omega
 have d:v%4294967296<4294967296:=by omega
 have e:bits .and .u32 (v%4294967296) 15=v%16:=by
  rw[u32_and _ _ c d (by omega) (by omega)];rw[show(15:Int).toNat=15 from rfl,nat_mask4];omega
 rw[e];obtain⟨k,f⟩:∃k,k=v%16*4096:=⟨_,rfl⟩;have a:0<=k:=by omega
 have g:k<65536:=by omega
 have b:k%4294967296=k:=by omega
 rw[<- f,b,u32_or _ _ hW0 hW1 a (by omega),nat_join 16 W.toNat k.toNat (by simp only[Nat.reducePow];omega) (by simp only[Nat.reducePow];omega)];omega
theorem LV (w0 w:World) (B C D:Nat) (o:Obj) (op a b c m W:Int) (x:Bool) (h:St w0 w B C D o op a b c m W x) (hW:W%65536=0) (hW0:0<=W) (hW1:W<4294967296):
  Calls prog 100 #[.pointer (some ⟨B,3,none⟩),.int .i64 12,.int .i64 4,.bool false,.pointer (some ⟨C+1,0,none⟩),.pointer (some ⟨C,0,none⟩)] w λe w' =>
   e=.returned (.tuple #[])/\St w0 w' B C D o op a b 0 m (W+c%16*4096) (x||(decide (c<0)||decide (16<=c))):=by
 have c1:w.cell? ⟨B,3,none⟩=some (.int .i64 c):=(ae h.hi 3).trans rfl;have d:=bp h.hw;have f:=bp h.hx;have g:=ij h.hi 3;have i:=dm h.hw;have j:=dm h.hx;have k:=h.lt;have H:=aa h;have A:=aa (M0 W c hW hW0 hW1);clear h;cases x with
 | true =>
  go_enter func100,ntmps100
  go_wp2
  go_quiet (fail)
  go_wp2
  skip
  skip
  go_region
  all_goals go_wp2
  go_end0;exact⟨rfl,H.put 3 _ _ _ _ _ rfl A.out rfl⟩
 | false =>
  go_enter func100,ntmps100
  go_wp2
  go_quiet (fail)
  go_wp2
  skip
  skip
  all_goals go_region
  all_goals go_wp2
  all_goals go_end0
  ·exact⟨rfl,H.put 3 _ _ _ _ _ rfl A.out (by simp)⟩
  ·exact⟨rfl,H.put 3 _ _ _ _ _ rfl A.out (by simp[*])⟩
theorem MZ (W v:Int) (hW:W%4096=0) (hW0:0<=W) (hW1:W<4294967296):bits .or .u32 W (bits .and .u32 (v%4294967296) 4095%4294967296)=W+v%4096:=by
 have c:0<=v%4294967296:=by omega
 have d:v%4294967296<4294967296:=by omega
 have e:bits .and .u32 (v%4294967296) 4095=v%4096:=by
  rw[u32_and _ _ c d (by omega) (by omega)];rw[show(4095:Int).toNat=4095 from rfl,nat_mask12];omega
 rw[e];obtain⟨k,f⟩:∃k,k=v%4096:=⟨_,rfl⟩;have a:0<=k:=by omega
 have g:k<4096:=by omega
 have b:k%4294967296=k:=by omega
 rw[<- f,b,u32_or _ _ hW0 hW1 a (by omega),nat_join 12 W.toNat k.toNat (by simp only[Nat.reducePow];omega) (by simp only[Nat.reducePow];omega)];omega
theorem Iv (w0 w:World) (B C D:Nat) (o:Obj) (op a b c m W:Int) (x:Bool) (h:St w0 w B C D o op a b c m W x) (hW:W%4096=0) (hW0:0<=W) (hW1:W<4294967296):
  Calls prog 100 #[.pointer (some ⟨B,4,none⟩),.int .i64 0,.int .i64 12,.bool true,.pointer (some ⟨C+1,0,none⟩),.pointer (some ⟨C,0,none⟩)] w λe w' =>
   e=.returned (.tuple #[])/\St w0 w' B C D o op a b c 0 (W+m%4096) (x||(decide (m < -2048)||decide (2048<=m))):=by
 have c1:w.cell? ⟨B,4,none⟩=some (.int .i64 m):=(ae h.hi 4).trans rfl;have d:=bp h.hw;have f:=bp h.hx;have g:=ij h.hi 4;have i:=dm h.hw;have j:=dm h.hx;have k:=h.lt;have H:=aa h;have A:=aa (MZ W m hW hW0 hW1);clear h;cases x with
 | true =>
  go_enter func100,ntmps100
  go_wp2
  go_quiet (fail)
  go_wp2
  go_quiet (fail)
  go_wp2
  go_region
  all_goals go_wp2
  go_end0;exact⟨rfl,H.put 4 _ _ _ _ _ rfl A.out rfl⟩
 | false =>
  go_enter func100,ntmps100
  go_wp2
  go_quiet (fail)
  go_wp2
  go_quiet (fail)
  go_wp2
  all_goals go_region
  all_goals go_wp2
  all_goals go_end0
  ·exact⟨rfl,H.put 4 _ _ _ _ _ rfl A.out (by simp)⟩
  ·exact⟨rfl,H.put 4 _ _ _ _ _ rfl A.out (by simp[*])⟩
theorem MY (W v:Int) (hW:W%1048576=0) (hW0:0<=W) (hW1:W<4294967296):bits .or .u32 W (bits .and .u32 (v%4294967296) 1048575%4294967296)=W+v%1048576:=by
 have c:0<=v%4294967296:=by omega
 have d:v%4294967296<4294967296:=by omega
 have e:bits .and .u32 (v%4294967296) 1048575=v%1048576:=by
  rw[u32_and _ _ c d (by omega) (by omega)];rw[show(1048575:Int).toNat=1048575 from rfl,nat_mask20];omega
 rw[e];obtain⟨k,f⟩:∃k,k=v%1048576:=⟨_,rfl⟩;have a:0<=k:=by omega
 have g:k<1048576:=by omega
 have b:k%4294967296=k:=by omega
 rw[<- f,b,u32_or _ _ hW0 hW1 a (by omega),nat_join 20 W.toNat k.toNat (by simp only[Nat.reducePow];omega) (by simp only[Nat.reducePow];omega)];omega
theorem LU (w0 w:World) (B C D:Nat) (o:Obj) (op a b c m W:Int) (x:Bool) (h:St w0 w B C D o op a b c m W x) (hW:W%1048576=0) (hW0:0<=W) (hW1:W<4294967296):
  Calls prog 100 #[.pointer (some ⟨B,4,none⟩),.int .i64 0,.int .i64 20,.bool true,.pointer (some ⟨C+1,0,none⟩),.pointer (some ⟨C,0,none⟩)] w λe w' =>
   e=.returned (.tuple #[])/\St w0 w' B C D o op a b c 0 (W+m%1048576) (x||(decide (m < -524288)||decide (524288<=m))):=by
 have c1:w.cell? ⟨B,4,none⟩=some (.int .i64 m):=(ae h.hi 4).trans rfl;have d:=bp h.hw;have f:=bp h.hx;have g:=ij h.hi 4;have i:=dm h.hw;have j:=dm h.hx;have k:=h.lt;have H:=aa h;have A:=aa (MY W m hW hW0 hW1);clear h;cases x with
 | true =>
  go_enter func100,ntmps100
  go_wp2
  go_quiet (fail)
  go_wp2
  go_quiet (fail)
  go_wp2
  go_region
  all_goals go_wp2
  go_end0;exact⟨rfl,H.put 4 _ _ _ _ _ rfl A.out rfl⟩
 | false =>
  go_enter func100,ntmps100
  go_wp2
  go_quiet (fail)
  go_wp2
  go_quiet (fail)
  go_wp2
  all_goals go_region
  all_goals go_wp2
  all_goals go_end0
  ·exact⟨rfl,H.put 4 _ _ _ _ _ rfl A.out (by simp)⟩
  ·exact⟨rfl,H.put 4 _ _ _ _ _ rfl A.out (by simp[*])⟩
theorem St.nx (h:St w0 w B C D (.stringIter S p) op a b c m W x) (p':Nat) (I L:Int) (hI:(p:Int)=I) (hp':p+1=p') (hp:p<S.size) (ha:(S[p]'hp).toNat<128) (hL:((S[p]'hp).toNat:Int)=L):
  ∃w':World,(∀ty,(Instr.next (.pointer (some ⟨D,0,none⟩)) true ty).run prog w=.ok (.tuple #[.bool true,.int .i64 I,.int .i32 L]) w')/\St w0 w' B C D (.stringIter S p') op a b c m W x:=by
 subst hL hI hp';have d:=h.lt;have e:=h.ltD;have f:=h.le;refine⟨w.iterAt D S (p+1),λty=>Lib.run_next_ascii_at w D S p ty h.it hp ha,h.lt,h.le,?_,?_,?_,h.ltD,rA _ _ _ _ _ h.it,pr h.bel (by omega) _ _⟩
 ·rw[Lib.iterAt_other _ _ _ _ _ (by omega)];exact h.hi
 ·rw[Lib.iterAt_other _ _ _ _ _ (by omega)];exact h.hw
 ·rw[Lib.iterAt_other _ _ _ _ _ (by omega)];exact h.hx
theorem St.nxe (h:St w0 w B C D (.stringIter S p) op a b c m W x) (hp:¬p<S.size):
  (∀ty,(Instr.next (.pointer (some ⟨D,0,none⟩)) true ty).run prog w=.ok (.tuple #[.bool false]) w)/\w.cell? ⟨B,0,none⟩=some (.int .i64 op)/\w.cell? ⟨B,1,none⟩=some (.int .i64 a)/\w.cell? ⟨B,2,none⟩=some (.int .i64 b) /\
   w.cell? ⟨B,3,none⟩=some (.int .i64 c)/\w.cell? ⟨B,4,none⟩=some (.int .i64 m)/\w.cell? ⟨C,0,none⟩=some (.int .u32 W)/\w.cell? ⟨C+1,0,none⟩=some (.bool x)/\Below w0.heap.size w0 w:=
 ⟨λty=>py w D S p ty h.it hp,(ae h.hi 0).trans rfl,(ae h.hi 1).trans rfl,(ae h.hi 2).trans rfl,(ae h.hi 3).trans rfl,(ae h.hi 4).trans rfl,bp h.hw,bp h.hx,h.bel⟩
theorem lF (w0 w:World) (h:Below w0.heap.size w0 w) (ht:Tab w0) (op a b c m:Int) (x:ByteArray) (hx:nm op=x):
  Calls prog 39 #[.int .i64 op] (w.alloc (.cells (fP op a b c m) 99)) λe w'=>e=.returned (.string x) /\
   (w'.heap[w.heap.size]?=some (.cells (fP op a b c m) 99 (0,0))/\w'.cell? ⟨w.heap.size,0,none⟩=some (.int .i64 op)/\w.heap.size<w'.heap.size/\Below w0.heap.size w0 w'):=by
 subst hx;have d:=h.alloc h.size (.cells (fP op a b c m) 99);refine(CF _ _ (ai _ _) (ht.below d) op).mono ?_;rintro e w' ⟨rfl,g⟩;have i:(w.alloc (.cells (fP op a b c m) 99)).heap.size=w.heap.size+1:=ah _ _;have f:w'.heap[w.heap.size]?=some (.cells (fP op a b c m) 99 (0,0)):=by rw[g.block _ (by omega)];exact af _ _
 exact⟨rfl,f,(ae f 0).trans rfl,ab f,d.trans (g.mono d.size)⟩
theorem mU (w0 w1:World) (B:Nat) (op a b c m W:Int) (hB:w0.heap.size<=B) (hi:w1.heap[B]?=some (.cells (fP op a b c m) 99 (0,0))) (hb:Below w0.heap.size w0 w1) (ht:Tab w0) (x:ByteArray) (hx:fm op=x):
  Calls prog 40 #[.int .i64 op] ((w1.alloc (.cells #[.int .u32 W] 40)).alloc (.cells #[.bool false] 4)) λe w'=>e=.returned (.string x)/\St w0 (w'.iter x 0) B w1.heap.size w'.heap.size (.stringIter x 0) op a b c m W false:=by
 subst hx;have h:(w1.alloc (.cells #[.int .u32 W] 40)).heap.size=w1.heap.size+1:=ah _ _;have i:((w1.alloc (.cells #[.int .u32 W] 40)).alloc (.cells #[.bool false] 4)).heap.size=w1.heap.size+1+1:=by rw[ah,h]
 have g:=ab hi;have f:Below w0.heap.size w0 ((w1.alloc (.cells #[.int .u32 W] 40)).alloc (.cells #[.bool false] 4)):=(hb.alloc hb.size _).alloc (by have:=hb.size;omega) _;refine(tv _ _ (ai _ _) (ht.below f) op).mono ?_;rintro e w' ⟨rfl,d⟩;have j:=d.size;refine⟨rfl,g,hB,?_,?_,?_,by omega,af _ _,(f.trans (d.mono f.size)).alloc (by have:=f.size;omega) _⟩
 ·show(w'.alloc _).heap[B]?=_
  rw[aK _ _ _ (by omega),d.block _ (by omega),aK _ _ _ (by omega),aK _ _ _ g];exact hi
 ·show(w'.alloc _).heap[w1.heap.size]?=_
  rw[aK _ _ _ (by omega),d.block _ (by omega),aK _ _ _ (by omega)];exact af _ _
 ·show(w'.alloc _).heap[w1.heap.size+1]?=_
  rw[aK _ _ _ (by omega),d.block _ (by omega),<- h];exact af _ _
theorem K7 (w0 w:World) (h:Below w0.heap.size w0 w) (ht:Tab w0) (op a b c m:Int) (ho:1<=op) (ho2:op<=53) (x:ByteArray) (hx:nm op=x) (hx1:x.toList.isEmpty=false) (hf:fm op=⟨#[97,105]⟩):
  Calls prog 48 #[.agg (fP op a b c m)] w λe w'=>e=.returned (.tuple #[.int .u32 (if(0<=a/\a<16)/\b=0/\c=0/\(-2048<=m/\m<2048)then op*16777216+a%16*1048576+m%4096 else 0),.int .i64 (if(0<=a/\a<16)/\b=0/\c=0/\(-2048<=m/\m<2048)then 0 else 2)])/\Below w0.heap.size w0 w':=by
 go_enter func48,ntmps48
 go_wp2_with fail;refine(lF w0 w h ht op a b c m x hx).mono ?_;rintro e E ⟨rfl,i,o,p,g⟩;go_wp2_with fail;refine(mU w0 _ w.heap.size op a b c m _ h.size i g ht _ hf).mono ?_;rintro e F ⟨rfl,j⟩;obtain⟨C,q,d⟩:=j.nx 1 0 97 rfl rfl (by decide) (by decide) (by decide);go_wp2_with fail;refine bC 3 ?_;rw[aO];go_wp2_with fail;refine(Ca w0 _ _ _ _ _ _ _ _ _ _ _ _ d (by omega) (by omega) (by omega)).mono ?_;rintro e G ⟨rfl,k⟩;obtain⟨D,r,f⟩:=k.nx 2 1 105 rfl rfl (by decide) (by decide) (by decide);go_wp2_with fail;rw[aO];go_wp2_with fail;refine(Iv w0 _ _ _ _ _ _ _ _ _ _ _ _ f (by omega) (by omega) (by omega)).mono ?_;rintro e H ⟨rfl,l⟩;obtain⟨s,t,u,v,y,z,A,B,n⟩:=l.nxe (by decide);go_wp2_with fail;rw[aO];go_wp2_with fail
 all_goals go_ret2
 all_goals first
  | exact⟨rfl,n⟩
  | exact⟨by(first|rw[ax (by omega),ax (by omega)]|rw[ax (by omega)]);rfl,n⟩
  | exact⟨by(first|rw[ap (by omega),ap (by omega)]|rw[ap (by omega)]);rfl,n⟩
theorem K6 (w0 w:World) (h:Below w0.heap.size w0 w) (ht:Tab w0) (op a b c m:Int) (ho:1<=op) (ho2:op<=53) (x:ByteArray) (hx:nm op=x) (hx1:x.toList.isEmpty=false) (hf:fm op=⟨#[97,106]⟩):
  Calls prog 48 #[.agg (fP op a b c m)] w λe w'=>e=.returned (.tuple #[.int .u32 (if(0<=a/\a<16)/\b=0/\c=0/\(-524288<=m/\m<524288)then op*16777216+a%16*1048576+m%1048576 else 0),.int .i64 (if(0<=a/\a<16)/\b=0/\c=0/\(-524288<=m/\m<524288)then 0 else 2)])/\Below w0.heap.size w0 w':=by
 go_enter func48,ntmps48
 go_wp2_with fail;refine(lF w0 w h ht op a b c m x hx).mono ?_;rintro e E ⟨rfl,i,o,p,g⟩;go_wp2_with fail;refine(mU w0 _ w.heap.size op a b c m _ h.size i g ht _ hf).mono ?_;rintro e F ⟨rfl,j⟩;obtain⟨C,q,d⟩:=j.nx 1 0 97 rfl rfl (by decide) (by decide) (by decide);go_wp2_with fail;refine bC 3 ?_;rw[aO];go_wp2_with fail;refine(Ca w0 _ _ _ _ _ _ _ _ _ _ _ _ d (by omega) (by omega) (by omega)).mono ?_;rintro e G ⟨rfl,k⟩;obtain⟨D,r,f⟩:=k.nx 2 1 106 rfl rfl (by decide) (by decide) (by decide);go_wp2_with fail;rw[aO];go_wp2_with fail;refine(LU w0 _ _ _ _ _ _ _ _ _ _ _ _ f (by omega) (by omega) (by omega)).mono ?_;rintro e H ⟨rfl,l⟩;obtain⟨s,t,u,v,y,z,A,B,n⟩:=l.nxe (by decide);go_wp2_with fail;rw[aO];go_wp2_with fail
 all_goals go_ret2
 all_goals first
  | exact⟨rfl,n⟩
  | exact⟨by(first|rw[ax (by omega),ax (by omega)]|rw[ax (by omega)]);rfl,n⟩
  | exact⟨by(first|rw[ap (by omega),ap (by omega)]|rw[ap (by omega)]);rfl,n⟩
theorem Jp (w0 w:World) (h:Below w0.heap.size w0 w) (ht:Tab w0) (op a b c m:Int) (ho:1<=op) (ho2:op<=53) (x:ByteArray) (hx:nm op=x) (hx1:x.toList.isEmpty=false) (hf:fm op=⟨#[97,98,99]⟩):
  Calls prog 48 #[.agg (fP op a b c m)] w λe w'=>e=.returned (.tuple #[.int .u32 (if(0<=a/\a<16)/\(0<=b/\b<16)/\(0<=c/\c<16)/\m=0 then op*16777216+a%16*1048576+b%16*65536+c%16*4096 else 0),.int .i64 (if(0<=a/\a<16)/\(0<=b/\b<16)/\(0<=c/\c<16)/\m=0 then 0 else 2)])/\Below w0.heap.size w0 w':=by
 go_enter func48,ntmps48
 go_wp2_with fail;refine(lF w0 w h ht op a b c m x hx).mono ?_;rintro e I ⟨rfl,j,q,r,i⟩;go_wp2_with fail;refine(mU w0 _ w.heap.size op a b c m _ h.size j i ht _ hf).mono ?_;rintro e J ⟨rfl,k⟩;obtain⟨F,s,d⟩:=k.nx 1 0 97 rfl rfl (by decide) (by decide) (by decide);go_wp2_with fail;refine bC 4 ?_;rw[aO];go_wp2_with fail;refine(Ca w0 _ _ _ _ _ _ _ _ _ _ _ _ d (by omega) (by omega) (by omega)).mono ?_;rintro e K ⟨rfl,l⟩;obtain⟨G,t,f⟩:=l.nx 2 1 98 rfl rfl (by decide) (by decide) (by decide);go_wp2_with fail;rw[aO];go_wp2_with fail;refine(Iw w0 _ _ _ _ _ _ _ _ _ _ _ _ f (by omega) (by omega) (by omega)).mono ?_;rintro e L ⟨rfl,n⟩;obtain⟨H,u,g⟩:=n.nx 3 2 99 rfl rfl (by decide) (by decide) (by decide);go_wp2_with fail;rw[aO];go_wp2_with fail;refine(LV w0 _ _ _ _ _ _ _ _ _ _ _ _ g (by omega) (by omega) (by omega)).mono ?_;rintro e M ⟨rfl,o⟩;obtain⟨v,y,z,A,B,C,D,E,p⟩:=o.nxe (by decide);go_wp2_with fail;rw[aO];go_wp2_with fail
 all_goals go_ret2
 all_goals first
  | exact⟨rfl,p⟩
  | exact⟨by(first|rw[ax (by omega),ax (by omega)]|rw[ax (by omega)]);rfl,p⟩
  | exact⟨by(first|rw[ap (by omega),ap (by omega)]|rw[ap (by omega)]);rfl,p⟩
theorem Jo (w0 w:World) (h:Below w0.heap.size w0 w) (ht:Tab w0) (op a b c m:Int) (ho:1<=op) (ho2:op<=53) (x:ByteArray) (hx:nm op=x) (hx1:x.toList.isEmpty=false) (hf:fm op=⟨#[97,98,105]⟩):
  Calls prog 48 #[.agg (fP op a b c m)] w λe w'=>e=.returned (.tuple #[.int .u32 (if(0<=a/\a<16)/\(0<=b/\b<16)/\c=0/\(-2048<=m/\m<2048)then op*16777216+a%16*1048576+b%16*65536+m%4096 else 0),.int .i64 (if(0<=a/\a<16)/\(0<=b/\b<16)/\c=0/\(-2048<=m/\m<2048)then 0 else 2)])/\Below w0.heap.size w0 w':=by
 go_enter func48,ntmps48
 go_wp2_with fail;refine(lF w0 w h ht op a b c m x hx).mono ?_;rintro e I ⟨rfl,j,q,r,i⟩;go_wp2_with fail;refine(mU w0 _ w.heap.size op a b c m _ h.size j i ht _ hf).mono ?_;rintro e J ⟨rfl,k⟩;obtain⟨F,s,d⟩:=k.nx 1 0 97 rfl rfl (by decide) (by decide) (by decide);go_wp2_with fail;refine bC 4 ?_;rw[aO];go_wp2_with fail;refine(Ca w0 _ _ _ _ _ _ _ _ _ _ _ _ d (by omega) (by omega) (by omega)).mono ?_;rintro e K ⟨rfl,l⟩;obtain⟨G,t,f⟩:=l.nx 2 1 98 rfl rfl (by decide) (by decide) (by decide);go_wp2_with fail;rw[aO];go_wp2_with fail;refine(Iw w0 _ _ _ _ _ _ _ _ _ _ _ _ f (by omega) (by omega) (by omega)).mono ?_;rintro e L ⟨rfl,n⟩;obtain⟨H,u,g⟩:=n.nx 3 2 105 rfl rfl (by decide) (by decide) (by decide);go_wp2_with fail;rw[aO];go_wp2_with fail;refine(Iv w0 _ _ _ _ _ _ _ _ _ _ _ _ g (by omega) (by omega) (by omega)).mono ?_;rintro e M ⟨rfl,o⟩;obtain⟨v,y,z,A,B,C,D,E,p⟩:=o.nxe (by decide);go_wp2_with fail;rw[aO];go_wp2_with fail
 all_goals go_ret2
 all_goals first
  | exact⟨rfl,p⟩
  | exact⟨by(first|rw[ax (by omega),ax (by omega)]|rw[ax (by omega)]);rfl,p⟩
  | exact⟨by(first|rw[ap (by omega),ap (by omega)]|rw[ap (by omega)]);rfl,p⟩
theorem K8 (w0 w:World) (h:Below w0.heap.size w0 w) (ht:Tab w0) (op a b c m:Int) (ho:1<=op) (ho2:op<=53) (x:ByteArray) (hx:nm op=x) (hx1:x.toList.isEmpty=false) (hf:fm op=⟨#[97,98]⟩):
  Calls prog 48 #[.agg (fP op a b c m)] w λe w'=>e=.returned (.tuple #[.int .u32 (if(0<=a/\a<16)/\(0<=b/\b<16)/\c=0/\m=0 then op*16777216+a%16*1048576+b%16*65536 else 0),.int .i64 (if(0<=a/\a<16)/\(0<=b/\b<16)/\c=0/\m=0 then 0 else 2)])/\Below w0.heap.size w0 w':=by
 go_enter func48,ntmps48
 go_wp2_with fail;refine(lF w0 w h ht op a b c m x hx).mono ?_;rintro e E ⟨rfl,i,o,p,g⟩;go_wp2_with fail;refine(mU w0 _ w.heap.size op a b c m _ h.size i g ht _ hf).mono ?_;rintro e F ⟨rfl,j⟩;obtain⟨C,q,d⟩:=j.nx 1 0 97 rfl rfl (by decide) (by decide) (by decide);go_wp2_with fail;refine bC 3 ?_;rw[aO];go_wp2_with fail;refine(Ca w0 _ _ _ _ _ _ _ _ _ _ _ _ d (by omega) (by omega) (by omega)).mono ?_;rintro e G ⟨rfl,k⟩;obtain⟨D,r,f⟩:=k.nx 2 1 98 rfl rfl (by decide) (by decide) (by decide);go_wp2_with fail;rw[aO];go_wp2_with fail;refine(Iw w0 _ _ _ _ _ _ _ _ _ _ _ _ f (by omega) (by omega) (by omega)).mono ?_;rintro e H ⟨rfl,l⟩;obtain⟨s,t,u,v,y,z,A,B,n⟩:=l.nxe (by decide);go_wp2_with fail;rw[aO];go_wp2_with fail
 all_goals go_ret2
 all_goals first
  | exact⟨rfl,n⟩
  | exact⟨by(first|rw[ax (by omega),ax (by omega)]|rw[ax (by omega)]);rfl,n⟩
  | exact⟨by(first|rw[ap (by omega),ap (by omega)]|rw[ap (by omega)]);rfl,n⟩
theorem Mo (w0 w:World) (h:Below w0.heap.size w0 w) (ht:Tab w0) (op a b c m:Int) (ho:1<=op) (ho2:op<=53) (x:ByteArray) (hx:nm op=x) (hx1:x.toList.isEmpty=false) (hf:fm op=⟨#[]⟩):
  Calls prog 48 #[.agg (fP op a b c m)] w λe w'=>e=.returned (.tuple #[.int .u32 (if a=0/\b=0/\c=0/\m=0 then op*16777216 else 0),.int .i64 (if a=0/\b=0/\c=0/\m=0 then 0 else 2)])/\Below w0.heap.size w0 w':=by
 go_enter func48,ntmps48
 go_wp2_with fail;refine(lF w0 w h ht op a b c m x hx).mono ?_;rintro e u ⟨rfl,f,j,k,d⟩;go_wp2_with fail;refine(mU w0 _ w.heap.size op a b c m _ h.size f d ht _ hf).mono ?_;rintro e v ⟨rfl,g⟩;obtain⟨l,n,o,p,q,r,s,t,i⟩:=g.nxe (by decide);go_wp2_with fail;refine bC 1 ?_;rw[aO];go_wp2_with fail
 all_goals go_ret2
 all_goals first
  | exact⟨rfl,i⟩
  | exact⟨by(first|rw[ax (by omega),ax (by omega)]|rw[ax (by omega)]);rfl,i⟩
  | exact⟨by(first|rw[ap (by omega),ap (by omega)]|rw[ap (by omega)]);rfl,i⟩
theorem Mn (w0 w:World) (h:Below w0.heap.size w0 w) (ht:Tab w0) (op a b c m:Int) (ho:1<=op) (ho2:op<=53) (x:ByteArray) (hx:nm op=x) (hx1:x.toList.isEmpty=false) (hf:fm op=⟨#[105]⟩):
  Calls prog 48 #[.agg (fP op a b c m)] w λe w'=>e=.returned (.tuple #[.int .u32 (if a=0/\b=0/\c=0/\(-2048<=m/\m<2048)then op*16777216+m%4096 else 0),.int .i64 (if a=0/\b=0/\c=0/\(-2048<=m/\m<2048)then 0 else 2)])/\Below w0.heap.size w0 w':=by
 go_enter func48,ntmps48
 go_wp2_with fail;refine(lF w0 w h ht op a b c m x hx).mono ?_;rintro e A ⟨rfl,g,l,n,f⟩;go_wp2_with fail;refine(mU w0 _ w.heap.size op a b c m _ h.size g f ht _ hf).mono ?_;rintro e B ⟨rfl,i⟩;obtain⟨z,o,d⟩:=i.nx 1 0 105 rfl rfl (by decide) (by decide) (by decide);go_wp2_with fail;refine bC 2 ?_;rw[aO];go_wp2_with fail;refine(Iv w0 _ _ _ _ _ _ _ _ _ _ _ _ d (by omega) (by omega) (by omega)).mono ?_;rintro e C ⟨rfl,j⟩;obtain⟨p,q,r,s,t,u,v,y,k⟩:=j.nxe (by decide);go_wp2_with fail;rw[aO];go_wp2_with fail
 all_goals go_ret2
 all_goals first
  | exact⟨rfl,k⟩
  | exact⟨by(first|rw[ax (by omega),ax (by omega)]|rw[ax (by omega)]);rfl,k⟩
  | exact⟨by(first|rw[ap (by omega),ap (by omega)]|rw[ap (by omega)]);rfl,k⟩
end
theorem gB:∀(l:List Ins) (g:GS),(cL l g).kept=g.kept/\(cL l g).ends=g.ends/\(cL l g).words.length=g.words.length+l.length
 | [],g=>⟨rfl,rfl,rfl⟩
 | i::l,g=>by
  obtain⟨a,b,c⟩:=gB l (em1 g i);refine⟨a,b,?_⟩;show(cL l (em1 g i)).words.length=_;rw[c,aC];show(g.words++[_]).length+l.length=_;rw[ac];simp;omega
theorem qE (r n:Int) (g:GS):(ed r n g).kept=g.kept/\(ed r n g).ends=g.ends/\(ed r n g).words.length<=g.words.length+2:=by
 unfold ed;split
 ·obtain⟨a,b,c⟩:=gB [⟨1,r,0,0,nN n⟩] g;exact⟨a,b,by rw[c];simp⟩
 ·obtain⟨a,b,c⟩:=gB [⟨2,r,0,0,JK n⟩,⟨16,r,r,0,nN n⟩] g;exact⟨a,b,by rw[c];simp⟩
theorem jg (what r:Int) (a:Nat) (g:GS):(qJ what r a g).kept=g.kept/\(qJ what r a g).ends=g.ends/\(qJ what r a g).words.length<=g.words.length+4:=by
 unfold qJ;split
 ·obtain⟨b,c,d⟩:=gB [⟨what,r,14,0,a⟩] g;exact⟨b,c,by rw[d];simp⟩
 ·obtain⟨b,c,d⟩:=gB [⟨32,9,14,9,0⟩,⟨what,r,9,0,0⟩] (ed 9 ((a:Int)%4294967296) g)
  obtain⟨e,f,h⟩:=qE 9 ((a:Int)%4294967296) g;exact⟨b.trans e,c.trans f,by rw[d];simp;omega⟩
theorem lq (a b c n:Int) (g:GS):(eI a b c n g).kept=g.kept/\(eI a b c n g).ends=g.ends/\(eI a b c n g).words.length<=g.words.length+3:=by
 unfold eI;obtain⟨d,e,f⟩:=gB [⟨a,b,c,6,0⟩] (ed 6 n g);obtain⟨h,i,j⟩:=qE 6 n g;exact⟨d.trans h,e.trans i,by rw[f];simp;omega⟩
theorem lE (g:GS):(oo g).kept=g.kept/\(oo g).ends=g.ends/\(oo g).words.length=g.words.length+1:=gB [⟨15,3,3,0,0⟩] g
theorem oC (n:Int) (g:GS):(dt n g).kept=g.kept/\(dt n g).ends=g.ends/\(dt n g).words.length=g.words.length+1:=gB [⟨52,0,0,0,n⟩] g
theorem rm (n:Int) (g:GS):(pu n g).kept=g.kept/\(pu n g).ends=g.ends/\(pu n g).words.length=g.words.length+1:=gB [⟨41,n,14,0,0⟩] g
theorem gV (r:Int) (g:GS):(fg r g).kept=g.kept/\(fg r g).ends=g.ends/\(fg r g).words.length=g.words.length+1:=gB [⟨29,r,0,0,1⟩] g
theorem hQ (s r:Int) (g:GS):(ce s r g).kept=g.kept/\(ce s r g).ends=g.ends/\(ce s r g).words.length=g.words.length+2:=by
 unfold ce;obtain⟨a,b,c⟩:=gB [⟨s,r,0,0,2⟩] g;obtain⟨d,e,f⟩:=gV 6 (cL [⟨s,r,0,0,2⟩] g);exact⟨d.trans a,e.trans b,by rw[f,c];simp⟩
theorem rj (a:Nat) (r:Int) (t:Nat) (g:GS):(qm a r t g).kept=g.kept/\(qm a r t g).ends=g.ends/\(qm a r t g).words.length=g.words.length:=by
 unfold qm;split
 ·exact⟨rfl,rfl,by simp⟩
 ·exact⟨rfl,rfl,rfl⟩
theorem kK (a:Nat) (r:Int) (g:GS):(fG a r g).kept=g.kept/\(fG a r g).ends=g.ends/\(fG a r g).words.length=g.words.length:=rj a r _ g
theorem mD (E:GE) (n:Nat) (g:GS):(lj E n g).words.length<=g.words.length+4:=(jg 24 3 _ (rq n g)).2.2
theorem mJ (E:GE) (r:Int) (n:Nat) (g:GS):(mw E r n g).words.length<=g.words.length+4:=(jg 23 r _ (rq n g)).2.2
theorem Ka (t:Tx) (g:GS):(rk t g).kept=g.kept/\(rk t g).ends=g.ends/\(rk t g).words.length<=g.words.length+2:=by
 unfold rk;have d:∀g1:GS,g1.kept=g.kept/\g1.ends=g.ends/\g1.words.length=g.words.length+1->(if t=[33,61]\/t=[62,61]\/t=[60,61]then oo g1 else g1).kept=g.kept/\(if t=[33,61]\/t=[62,61]\/t=[60,61]then oo g1 else g1).ends=g.ends/\(if t=[33,61]\/t=[62,61]\/t=[60,61]then oo g1 else g1).words.length<=g.words.length+2:=λg1 ⟨a,b,c⟩=>by
  split
  ·obtain⟨e,f,h⟩:=lE g1;exact⟨e.trans a,f.trans b,by omega⟩
  ·exact⟨a,b,by omega⟩
 refine d _ ?_;cases qu t with
 | some o=>exact gB [⟨o,3,4,3,0⟩] g
 | none=>exact gB [⟨13,3,3,4,0⟩] g
theorem pJ (E:GE) (bs kp:Nat):∀(n i:Nat) (g:GS),(iD E bs kp n i g).words.length<=g.words.length+8*n
 | 0,_,g=>by rw[iD];omega
 | n+1,i,g=>by
  rw[iD];have b:=pJ E bs kp n (i+1) (fF 3 (bs+16*(1+i)) (mw E 3 (kp+i) g));have a:=(jg 24 3 (bs+16*(1+i)) (mw E 3 (kp+i) g)).2.2;have c:=mJ E 3 (kp+i) g;have d:(fF 3 (bs+16*(1+i)) (mw E 3 (kp+i) g)).words.length<=(mw E 3 (kp+i) g).words.length+4:=a;omega
mutual
theorem dq (E:GE):∀(x:Ex) (k:Nat) (g:GS),(exG E x k g).words.length+12<=g.words.length+40*cN x
 | .num n,k,g=>by rw[exG,cN];have:=(qE 3 n g).2.2;omega
 | .name s,k,g=>by rw[exG,cN];have:(mq 3 (E.names s) g).words.length<=g.words.length+4:=(jg 23 3 (E.names s) g).2.2;omega
 | .un t r,k,g=>by
  rw[exG,cN];have h:=dq E r k g;split
  ·have:=(lE (exG E r k g)).2.2;omega
  ·have:=(gB [⟨4,3,0,3,0⟩] (exG E r k g)).2.2;simp at this;omega
 | .bin t l r,k,g=>by
  rw[exG,cN];have f:=dq E l k g;split
  ·simp only
   have b:=(lE (exG E l k g)).2.2;have a:=(lE (oo (exG E l k g))).2.2;generalize oo (oo (exG E l k g))=g1 at a;have d:=(hQ (if t=[38,38]then 26 else 25) 3 g1).2.2;generalize ce (if t=[38,38]then 26 else 25) 3 g1=g2 at d;have j:=dq E r k g2;have c:=(lE (exG E r k g2)).2.2;have e:=(lE (oo (exG E r k g2))).2.2;have m:=(kK (g1.words.length+1) 6 (oo (oo (exG E r k g2)))).2.2;omega
  ·have b:=mD E k (exG E l k g)
   have j:=dq E r (k+1) (lj E k (exG E l k g));have a:=mJ E 4 k (exG E r (k+1) (lj E k (exG E l k g)));have d:=(Ka t (mw E 4 k (exG E r (k+1) (lj E k (exG E l k g))))).2.2;omega
 | .call s args,k,g=>by
  rw[exG,cN]
  try simp only
  have f:=pV E args k g;have u:=tc args;have b:=pJ E ((E.funcs s).getD (0,0)).2 k args.length 0 (ip E args k g);generalize iD E ((E.funcs s).getD (0,0)).2 k args.length 0 (ip E args k g)=g1 at b;have a:=(gV 5 g1).2.2;have d:=(rj g1.words.length 5 ((E.funcs s).getD (0,0)).1 (fg 5 g1)).2.2;have c:=(gB [⟨31,3,10,0,0⟩] (qm g1.words.length 5 ((E.funcs s).getD (0,0)).1 (fg 5 g1))).2.2;simp at c;omega
 | .cell l r,k,g=>by
  rw[exG,cN];have f:=dq E l k g;have b:=mD E k (exG E l k g);have j:=dq E r (k+1) (lj E k (exG E l k g));have a:=mJ E 4 k (exG E r (k+1) (lj E k (exG E l k g)));generalize mw E 4 k (exG E r (k+1) (lj E k (exG E l k g)))=g1 at a;have d:=(lq 11 3 3 4 g1).2.2;have c:=(gB [⟨32,4,4,3,0⟩,⟨23,3,4,0,0⟩] (eI 11 3 3 4 g1)).2.2;have e:=(gB [⟨48,6,3,0,0⟩,⟨26,6,0,0,2⟩,⟨53,0,0,0,0⟩] (cL [⟨32,4,4,3,0⟩,⟨23,3,4,0,0⟩] (eI 11 3 3 4 g1))).2.2;simp at c e;omega
 | .link l r,k,g=>by
  rw[exG,cN];have f:=dq E l k g;have b:=mD E k (exG E l k g);have j:=dq E r (k+1) (lj E k (exG E l k g));have a:=mJ E 4 k (exG E r (k+1) (lj E k (exG E l k g)));generalize mw E 4 k (exG E r (k+1) (lj E k (exG E l k g)))=g1 at a;have d:=(lq 11 3 3 4 g1).2.2;have c:=(gB [⟨32,4,4,3,0⟩,⟨23,3,4,0,0⟩] (eI 11 3 3 4 g1)).2.2;simp at c;omega
 | .new l,k,g=>by
  rw[exG,cN]
  try simp only
  have f:=dq E l k g;have b:=(lq 12 4 3 28 (exG E l k g)).2.2;generalize eI 12 4 3 28 (exG E l k g)=g1 at b;have a:=(hQ 25 4 g1).2.2;have d:=(lq 11 10 3 4 (ce 25 4 g1)).2.2;have c:=(oC 1 (eI 11 10 3 4 (ce 25 4 g1))).2.2;have e:=(gB [⟨47,4,10,0,0⟩] (dt 1 (eI 11 10 3 4 (ce 25 4 g1)))).2.2;generalize cL [⟨47,4,10,0,0⟩] (dt 1 (eI 11 10 3 4 (ce 25 4 g1)))=g2 at e;have m:=(hQ 25 4 g2).2.2;have p:=(kK (g1.words.length+1) 6 (ce 25 4 g2)).2.2;have o:=(rm 10 (fG (g1.words.length+1) 6 (ce 25 4 g2))).2.2;generalize pu 10 (fG (g1.words.length+1) 6 (ce 25 4 g2))=g3 at o;have q:=(kK (g2.words.length+1) 6 g3).2.2;have i:=(gB [⟨31,3,10,0,0⟩] (fG (g2.words.length+1) 6 g3)).2.2;simp at e i;omega
 | .inp,k,g=>by
  rw[exG,cN];have b:=(oC 5 g).2.2;have a:=(gB [⟨31,3,10,0,0⟩] (dt 5 g)).2.2;simp at a;omega
theorem pV (E:GE):∀(xs:List Ex) (k:Nat) (g:GS),(ip E xs k g).words.length+8*xs.length<=g.words.length+40*gZ xs
 | [],k,g=>by rw[ip,gZ];simp
 | x::xs,k,g=>by
  rw[ip,gZ,aC];have b:=dq E x k g;have a:=mD E k (exG E x k g);have c:=pV E xs (k+1) (lj E k (exG E x k g));omega
end
theorem rt (l:List Ins) (g:GS):(cL l g).ends=g.ends:=(gB l g).2.1
theorem Aj (E:GE) (n:Nat) (g:GS):(lj E n g).ends=g.ends:=(jg 24 3 _ (rq n g)).2.1
theorem AL (E:GE) (r:Int) (n:Nat) (g:GS):(mw E r n g).ends=g.ends:=(jg 23 r _ (rq n g)).2.1
theorem Cl (E:GE) (bs kp:Nat):∀(n i:Nat) (g:GS),(iD E bs kp n i g).ends=g.ends
 | 0,_,g=>by rw[iD]
 | n+1,i,g=>by rw[iD,Cl E bs kp n,fF,(jg 24 3 _ _).2.1,AL]
mutual
theorem jz (E:GE):∀(x:Ex) (k:Nat) (g:GS),(exG E x k g).ends=g.ends
 | .num n,k,g=>by rw[exG,(qE 3 n g).2.1]
 | .name s,k,g=>by rw[exG,mq,(jg 23 3 (E.names s) g).2.1]
 | .un t r,k,g=>by
  rw[exG];split
  ·rw[(lE _).2.1,jz E r k g]
  ·rw[rt,jz E r k g]
 | .bin t l r,k,g=>by
  rw[exG];split
  ·simp only
   rw[(kK _ _ _).2.1,(lE _).2.1,(lE _).2.1,jz E r,(hQ _ _ _).2.1,(lE _).2.1,(lE _).2.1,jz E l k g]
  ·rw[(Ka _ _).2.1,AL,jz E r,Aj,jz E l k g]
 | .call s args,k,g=>by
  rw[exG]
  try simp only
  rw[rt,(rj _ _ _ _).2.1,(gV _ _).2.1,Cl,DX E args k g]
 | .cell l r,k,g=>by rw[exG,rt,rt,(lq _ _ _ _ _).2.1,AL,jz E r,Aj,jz E l k g]
 | .link l r,k,g=>by rw[exG,rt,(lq _ _ _ _ _).2.1,AL,jz E r,Aj,jz E l k g]
 | .new l,k,g=>by
  rw[exG]
  try simp only
  rw[rt,(kK _ _ _).2.1,(rm _ _).2.1,(kK _ _ _).2.1,(hQ _ _ _).2.1,rt,(oC _ _).2.1,(lq _ _ _ _ _).2.1,(hQ _ _ _).2.1,(lq _ _ _ _ _).2.1,jz E l k g]
 | .inp,k,g=>by rw[exG,rt,(oC _ _).2.1]
theorem DX (E:GE):∀(xs:List Ex) (k:Nat) (g:GS),(ip E xs k g).ends=g.ends
 | [],k,g=>by rw[ip]
 | x::xs,k,g=>by rw[ip,DX E xs,Aj,jz E x k g]
end
theorem tJ (E:GE) (p:Bool):∀(o:Option Ex) (g:GS),(cS E p o g).ends=g.ends/\(cS E p o g).words.length<=g.words.length+40*oSz o+2
 | some x,g=>by
  rw[cS,oSz];refine⟨by rw[rt,jz],?_⟩;have b:=dq E x 0 g;have a:=(gB [⟨31,10,3,0,0⟩] (exG E x 0 g)).2.2;simp at a;omega
 | none,g=>by
  rw[cS,oSz];split
  ·exact⟨(rm 10 g).2.1,by have:=(rm 10 g).2.2;omega⟩
  ·exact⟨(qE 10 0 g).2.1,by have:=(qE 10 0 g).2.2;omega⟩
theorem Bs (x:Ex):1<=cN x:=by cases x<;>(rw[cN];omega)
theorem FZ (l:Ex):cN (kq l)+cN (kS l)<=cN l+1:=by
 have:=Bs l;cases l<;>simp only[kq,kS]<;>simp only[cN]at this ⊢<;>omega
def tQ (g g':GS) (n:Nat):Prop:=g'.words.length<=g.words.length+40*n/\g'.ends.length<=g.ends.length+n/\∀a∈g'.ends,a∈g.ends\/a<=g.words.length+40*n
theorem tQ.refl (g:GS):tQ g g 0:=⟨by omega,by omega,λa h=>.inl h⟩
theorem tQ.of {g g':GS} (h1:g'.words.length<=g.words.length+40*n) (h2:g'.ends=g.ends):tQ g g' n:=⟨h1,by rw[h2];omega,λa h=>.inl (by rw[h2]at h;exact h)⟩
theorem tQ.trans {a b c:GS} {m:Nat} (h:tQ a b n) (k:tQ b c m):tQ a c (n+m):=
 ⟨by have:=h.1;have:=k.1;omega,by have:=h.2.1;have:=k.2.1;omega,λx hx=>(k.2.2 x hx).elim (λh1=>(h.2.2 x h1).imp id λh2=>by omega) λh2=>.inr (by have:=h.1;omega)⟩
theorem tQ.le {a b:GS} {m:Nat} (h:tQ a b n) (hn:n<=m):tQ a b m:=⟨by have:=h.1;omega,by have:=h.2.1;omega,λx hx=>(h.2.2 x hx).imp id λh2=>by omega⟩
theorem tQ.more {a b c:GS} {m:Nat} (h:tQ a b n) (h1:c.words.length+40*n<=b.words.length+40*m) (h2:c.ends=b.ends) (hn:n<=m):tQ a c m:=
 ⟨by have:=h.1;omega,by rw[h2];have:=h.2.1;omega,λx hx=>by rw[h2]at hx;exact(h.2.2 x hx).imp id λh2=>by omega⟩
mutual
theorem LK (E:GE) (fp:Bool):∀(x:Sm) (g:GS),tQ g (stG E fp x g) (cP x)
 | .var n p none,g=>by
  rw[stG,cP,oSz,fF];refine .of ?_ ?_
  ·have c:=(jg 24 3 (E.names n) (if p=true then pu 3 g else ed 3 0 g)).2.2
   have d:=(rm 3 g).2.2;have q:=(qE 3 0 g).2.2;cases p<;>simp only[tr,gy,bl]at c ⊢<;>omega
  ·rw[(jg _ _ _ _).2.1]
   split
   ·exact(rm 3 g).2.1
   ·exact(qE 3 0 g).2.1
 | .var n p (some r),g=>by
  rw[stG,cP,oSz,fF];refine .of ?_ (by rw[(jg _ _ _ _).2.1,jz]);have c:=(jg 24 3 (E.names n) (exG E r 0 g)).2.2;have d:=dq E r 0 g;omega
 | .set n r,g=>by
  rw[stG,cP,fF];refine .of ?_ (by rw[(jg _ _ _ _).2.1,jz]);have c:=(jg 24 3 (E.names n) (exG E r 0 g)).2.2;have d:=dq E r 0 g;omega
 | .cell l r,g=>by
  rw[stG,cP];refine .of ?_ (by rw[rt,(lq _ _ _ _ _).2.1,AL,AL,jz,Aj,jz,Aj,jz]);have z:=FZ l;have c:=dq E (kq l) 0 g;have d:=mD E 0 (exG E (kq l) 0 g);have q:=dq E (kS l) 1 (lj E 0 (exG E (kq l) 0 g));have k:=mD E 1 (exG E (kS l) 1 (lj E 0 (exG E (kq l) 0 g)));have s:=dq E r 2 (lj E 1 (exG E (kS l) 1 (lj E 0 (exG E (kq l) 0 g))));generalize exG E r 2 (lj E 1 (exG E (kS l) 1 (lj E 0 (exG E (kq l) 0 g))))=g3 at s;have A:=mJ E 4 0 g3;have B:=mJ E 7 1 (mw E 4 0 g3);have C:=(lq 11 7 7 4 (mw E 7 1 (mw E 4 0 g3))).2.2;have v:=(gB [⟨32,4,4,7,0⟩,⟨24,3,4,0,0⟩] (eI 11 7 7 4 (mw E 7 1 (mw E 4 0 g3)))).2.2;simp at v;omega
 | .iff r a b,g=>by
  rw[stG,cP]
  try simp only
  have c:=dq E r 0 g;have f:=jz E r 0 g;generalize exG E r 0 g=g1 at c f;have d:=(hQ 26 3 g1).2.2;have i:=(hQ 26 3 g1).2.1;have e:=nz E fp a (ce 26 3 g1);generalize ce 26 3 g1=u1 at d i e;generalize mi E fp a u1=g2 at e;have q:=(gV 6 g2).2.2;have m:=(gV 6 g2).2.1;have k:=(kK (g1.words.length+1) 6 (fg 6 g2)).2.2;have j:=(kK (g1.words.length+1) 6 (fg 6 g2)).2.1;generalize fG (g1.words.length+1) 6 (fg 6 g2)=u2 at k j;have u:=nz E fp b u2;generalize mi E fp b u2=g3 at u;have s:=(kK g2.words.length 6 g3).2.2;have o:=(kK g2.words.length 6 g3).2.1;have w:=Bs r;have t:tQ g u1 (cN r):=.of (by omega) (by rw[i,f]);have y:tQ g u2 (cN r+bL a+1):=(t.trans e).more (by omega) (by rw[j,m]) (by omega);exact((y.trans u).more (by omega) o (ag _)).le (by omega)
 | .whl r a,g=>by
  rw[stG,cP]
  try simp only
  have c:=dq E r 0 g;have f:=jz E r 0 g;generalize exG E r 0 g=g1 at c f;have d:=(hQ 26 3 g1).2.2;have i:=(hQ 26 3 g1).2.1;have e:=nz E fp a (ce 26 3 g1);generalize ce 26 3 g1=u1 at d i e;generalize mi E fp a u1=g2 at e;have q:=(gV 6 g2).2.2;have m:=(gV 6 g2).2.1;have k:=(rj g2.words.length 6 g.words.length (fg 6 g2)).2.2;have j:=(rj g2.words.length 6 g.words.length (fg 6 g2)).2.1;generalize qm g2.words.length 6 g.words.length (fg 6 g2)=u2 at k j;have s:=(kK (g1.words.length+1) 6 u2).2.2;have o:=(kK (g1.words.length+1) 6 u2).2.1;have w:=Bs r;have t:tQ g u1 (cN r):=.of (by omega) (by rw[i,f]);exact(t.trans e).more (by omega) (by rw[o,j,m]) (by omega)
 | .out r,g=>by
  rw[stG,cP];have c:=tJ E false (some r) g;rw[oSz]at c;have d:=oC 4 (cS E false (some r) g);exact .of (by omega) (by rw[d.2.1,c.1])
 | .free r,g=>by
  rw[stG,cP];have c:=tJ E false (some r) g;rw[oSz]at c;have d:=oC 2 (cS E false (some r) g);exact .of (by omega) (by rw[d.2.1,c.1])
 | .drain,g=>by
  rw[stG,cP];have d:=oC 3 g;exact .of (by omega) d.2.1
 | .ret r,g=>by
  rw[stG,cP]
  try simp only
  have c:=tJ E fp r g;generalize cS E fp r g=g1 at c;have d:=gV 6 { g1 with ends:=g1.ends++[g1.words.length] };simp only at d;refine⟨by omega,by rw[d.2.1,ac,c.1,My];omega,λx hx=>?_⟩;rw[d.2.1,c.1]at hx;rcases aU.1 hx with h|h
  ·exact .inl h
  ·rw[aZ]at h;exact .inr (by omega)
 | .call r,g=>by
  rw[stG,cP];have c:=dq E r 0 g;exact .of (by omega) (jz E r 0 g)
theorem nz (E:GE) (fp:Bool):∀(l:List Sm) (g:GS),tQ g (mi E fp l g) (bL l)
 | [],g=>by rw[mi,bL];exact .refl g
 | x::xs,g=>by rw[mi,bL];exact(LK E fp x g).trans (nz E fp xs _)
end
theorem yw (E:GE) (fp:Bool):∀(l:List Sm) (x:Sm) (g:GS),mi E fp (l++[x]) g=stG E fp x (mi E fp l g)
 | [],x,g=>by rw[bh,mi,mi,mi]
 | y::l,x,g=>by rw[bB,mi,mi,yw E fp l x]
theorem vR (E:GE):∀(l:List Ex) (x:Ex) (k:Nat) (g:GS),ip E (l++[x]) k g=lj E (k+l.length) (exG E x (k+l.length) (ip E l k g))
 | [],x,k,g=>by rw[bh,ip,ip,ip];rfl
 | y::l,x,k,g=>by rw[bB,ip,ip,vR E l x,aC,show k+1+l.length=k+(l.length+1) by omega]
theorem uz (E:GE) (bs kp:Nat):∀(n i:Nat) (g:GS),iD E bs kp (n+1) i g=fF 3 (bs+16*(1+(i+n))) (mw E 3 (kp+(i+n)) (iD E bs kp n i g))
 | 0,i,g=>by rw[iD,iD,iD];rfl
 | n+1,i,g=>by rw[iD,uz E bs kp n (i+1)];simp only[iD];rw[show i+1+n=i+(n+1) by omega]
end Go.Proofs.YtbeaaimcpkogcaaGreatDoor
