/- Lemmas on the way to the claim. -/
import Derived.Test.YtbeaaimcpkogcaaGreatDoorRows
import Derived.Lib.QuoteLoop
import Derived.StillTailTactics
import Derived.Deep.AppendLies
import Derived.Lib.AppendIntMem
import Derived.Test.YtbeaaimcpkogcaaGreatDoorM01
import Derived.Test.YtbeaaimcpkogcaaGreatDoorM10
set_option linter.unusedSimpArgs false
set_option linter.unusedVariables false
set_option maxHeartbeats 4000000
set_option maxRecDepth 100000
namespace Go.Proofs.YtbeaaimcpkogcaaGreatDoor
open Go.Proofs.Tryz Go.RowKit
variable {T b base p size:Nat} {ks:List Int} {n x:Int} {l r s:Tx} {u w w' w0 w1:World} {o:Option (List Tok)} {v:Value} {xs:List Value} {al:List (Tok×Int)} {c:UInt8} {D:DataW Unit}
theorem wG {k:IntKind} {a b:Int} (h:a=b):Ending.returned (.int k a)=.returned (.int k b):=by rw[h]
theorem Im {p:Prop} [Decidable p] {b:Bool} (h:p<->b=true):Ending.returned (.bool (decide p))=.returned (.bool b):=by
 rw[show decide p=b by rw[Bool.eq_iff_iff,decide_eq_true_iff];exact h]
theorem kB {a b:Bool} (h:a=b):Ending.returned (.bool a)=.returned (.bool b):=by rw[h]
theorem IL (r:Int) (h0:0<=r) (h1:r<128):(0<=Lib.indexByte [40,41,123,125,91,93,44,59,58,61,60,62,43,45,124,94,38,42,47,37,33] (r%256).toNat.toUInt8)<->pe r=true:=by
 obtain⟨n,rfl⟩:=Int.eq_ofNat_of_zero_le h0;have hn:n<128:=by omega
 revert hn
 have:∀m:Nat,m<128->((0<=Lib.indexByte [40,41,123,125,91,93,44,59,58,61,60,62,43,45,124,94,38,42,47,37,33] (((m:Int)%256).toNat.toUInt8))<->pe (m:Int)=true):=by decide +kernel
 exact this n
theorem yF (r:Int) (h:128<=r):pe r=false:=by
 unfold pe;have:(KB.any λu=>decide ((u.toNat:Int)=r))=false:=by
  rw[List.any_eq_false];intro u a;have:u.toNat<128:=by revert u a;decide
  simp;omega
 rw[this];simp
def ixI (r:Int):Int:=Lib.indexByte [40,41,123,125,91,93,44,59,58,61,60,62,43,45,124,94,38,42,47,37,33] (r%256).toNat.toUInt8
theorem KN (r c:Int) (hc:c=r%256) (w:World):
  Calls prog 52 #[.string ⟨#[40,41,123,125,91,93,44,59,58,61,60,62,43,45,124,94,38,42,47,37,33]⟩,.int .u8 c] w λe w'=>e=.returned (.int .i64 (ixI r))/\w=w':=by
 subst hc;refine(Tryz.strings_IndexByte _ _ w).mono ?_;rintro e w' ⟨rfl,rfl⟩;exact⟨rfl,rfl⟩
theorem Cx (r:Int) (h0:0<=r) (h1:r<=2147483647) (w:World):
  Calls prog 53 #[.int .i32 r] w λe w'=>e=.returned (.int .i64 (ki r))/\w=w':=by
 have b:(pe r=true/\r<128/\0<=ixI r)\/(pe r=false/\(128<=r\/ixI r<0)):=by
  by_cases h:r<128
  ·have d:=IL r h0 h
   by_cases a:pe r=true
   ·exact .inl ⟨a,h,d.2 a⟩
   ·refine .inr ⟨by simpa using a,.inr ?_⟩
    have f:¬0<=ixI r:=λh=>a (d.1 h);omega
  ·exact .inr ⟨yF r (by omega),.inl (by omega)⟩
 have c:=aa b;clear b
 go_enter func53,ntmps53
 go_wp2_with (go_at_call 52;refine(KN r _ (by omega) _).mono ?_;rintro e w' ⟨rfl,rfl⟩)
 all_goals
  have b:=c.out;clear c
  (try simp only[beq_iff_eq,bS,ne_eq]at *)
  go_ret;refine⟨wG ?_,rfl⟩;unfold ki;rcases b with⟨a,b⟩|⟨a,b⟩<;>rw[a]<;>(repeat' split)<;>first|rfl|omega|simp_all
def oX (w:World) (b o:Nat) (ks:List Int):Prop:=∀j,j<ks.length->w.cell? ⟨b,o+j,none⟩=some (.int .i64 (ks.getD j 0))
def Lr (ks:List Int) (x:Int) (w:World) (e:Ending) (w':World):Prop:=∃v:Int,((0<=v)<->ks.contains x=true)/\e=.returned (.int .i64 v)/\w=w'
theorem tE {k:Nat} (h:k<ks.length) (e:x=ks.getD k 0):ks.contains x=true:=by
 rw[iz];subst e;rw[dD,aw h];exact List.getElem_mem h
theorem tD (h:∀j,j<ks.length->x≠ks.getD j 0):ks.contains x=false:=by
 rw[Bool.eq_false_iff];intro a;rw[iz]at a;obtain⟨j,b,e⟩:=List.getElem_of_mem a;refine h j b ?_;rw[dD,aw b];exact e.symm
theorem tj (b o c:Nat) (ks:List Int) (x:Int) (w:World) (hk:oX w b o ks) (hl:ks.length<=1000):
  Calls prog 160 #[.slice (some ⟨b,o,none⟩) ks.length c,.int .i64 x] w (Lr ks x w):=by
 have g:=aa hk;clear hk
 go_enter func160,ntmps160
 go_wp2_with fail
 go_loop [8] (λi=>∃k:Nat,k<=ks.length/\i=.int .i64 k/\Hid (∀j,j<k->x≠ks.getD j 0)) (λi=>ks.length-(intOf i).toNat)
 case atStart=>exact⟨0,aV _,rfl,λj m=>by omega⟩
 case round =>
  obtain⟨k,p,rfl,hn⟩:=hrel
  by_cases hlt:k<ks.length
  ·have n:=g.out k hlt
   obtain⟨y,f⟩:∃y,ks.getD k 0=y:=⟨_,rfl⟩;rw[f]at n;have l:=aa f;clear f
   by_cases he:x=y
   ·have q:(x==y)=true:=by simpa using he
    have a:=aa (tE hlt (he.trans l.symm));clear he;go_wp2_with fail;go_ret;exact⟨_,⟨λ_=>a.out,λ_=>by omega⟩,rfl,rfl⟩
   ·have q:(x==y)=false:=by simpa using he
    have d:Hid (∀j,j<k+1->x≠ks.getD j 0):=by
     intro j m;rcases gG j k with h|h
     ·exact hn j h
     ·obtain rfl:j=k:=by omega
      rw[l.out];exact he
    clear he;go_wp2_with fail
    go_round
    case rel=>exact⟨k+1,by omega,by go_num,d⟩
    case measure=>simp[intOf];omega
  ·have e:=aa (tD (x:=x) (ks:=ks) λj m=>hn j (by omega))
   clear g;go_wp2_with fail;go_ret;exact⟨_,⟨λh=>by omega,λh=>by rw[e.out]at h;cases h⟩,rfl,rfl⟩
theorem kZ (b o c:Nat) (ks:List Int) (x:Int) (w:World) (hk:oX w b o ks) (hl:ks.length<=1000) (r:Bool) (hr:ks.contains x=r):
  Calls prog 104 #[.slice (some ⟨b,o,none⟩) ks.length c,.int .i64 x] w λe w'=>e=.returned (.bool r)/\w=w':=by
 subst hr
 go_enter func104,ntmps104
 go_wp2_with fail;refine(tj b o c ks x w hk hl).mono ?_;rintro e w' ⟨v,a,rfl,rfl⟩;have d:=aa a;clear a;go_wp2_with fail;go_ret;exact⟨Im d.out,rfl⟩
theorem AV (n b0 b1 b2 b3:Nat) (h:128<=b0):128<=(Lib.decodeN n b0 b1 b2 b3).1:=by
 unfold Lib.decodeN;rw[ap (by omega)]
 (repeat' split)<;>simp only<;>omega
theorem oe (s:ByteArray) (p:Nat) (hp:p<s.size) (h:(s[p]'hp).toNat<128):Utf8.decode s p=((s[p]'hp).toNat,1):=decode_ascii s p hp h
theorem vC (s:ByteArray) (p:Nat) (hp:p<s.size) (h:128<=(s[p]'hp).toNat):128<=(Utf8.decode s p).1/\(Utf8.decode s p).1<=1114111:=by
 have a:s.get! p=s[p]'hp:=by
  show s.data[p]! = s.data[p];rw[getElem!_pos s.data p (by simpa using hp)]
 rw[Lib.decode_at];refine⟨AV _ _ _ _ _ (by rw[a];exact h),?_⟩;have:=Lib.decodeN_valid (s.size-p) (s.get! p).toNat (s.get! (p+1)).toNat (s.get! (p+2)).toNat (s.get! (p+3)).toNat (UInt8.toNat_lt _);omega
theorem zf (r:Int) (h:128<=r):ki r=0:=by
 unfold ki;rw[ap (by omega),ap (by omega),ap (by omega),yF r h];rfl
def Gh (ks:List Int) (l:Tx) (p:Nat):Prop:=∀j (h:j<l.length),j<p->ks.contains (dL l[j])=true
theorem Az (h:Gh ks l p) (hp:p<l.length) (hs:ks.contains (dL (l[p]'hp))=false):dI ks l=p:=by
 unfold dI
 induction l generalizing p with
 | nil=>simp at hp
 | cons c r ih =>
  cases p with
  | zero=>rw[ei];simp at hs;simp[hs]
  | succ p =>
   have a:=h 0 (by simp) (by omega);rw[ei];simp at a;simp only[M6,a,decide_true,tr,aC];have:=ih (p:=p) (λj hj hjp=>by have:=h (j+1) (by simpa using hj) (by omega);simpa using this) (by simpa using hp) (by simpa using hs)
   simpa using this
theorem nr (p:UInt8->Bool):∀l:Tx,(∀j (h:j<l.length),p l[j]=true)->l.takeWhile p=l
 | [],_=>rfl
 | c::r,h=>by
  have a:p c=true:=h 0 (by simp);rw[ei,ax a,nr p r λj hj=>h (j+1) (by simpa using hj)]
theorem oX.below {o:Nat} (h:oX w b o ks) (hb:Below w.heap.size w u) (hlt:b<w.heap.size):oX u b o ks:=
 λj hj=>by rw[hb.cell (p:=⟨b,o+j,none⟩) hlt];exact h j hj
theorem CQ (h:Gh ks l p) (hp:¬p<l.length):dI ks l=l.length:=by
 unfold dI;have:l.takeWhile (λu=>ks.contains (dL u))=l:=nr _ _ λj hj=>h j hj (by omega);rw[this]
theorem Fr (b o c:Nat) (ks:List Int) (s:ByteArray) (w:World) (hk:oX w b o ks) (hl:ks.length<=1000) (hb:b<w.heap.size) (h0:ks.contains 0=false) (hs:s.size<=4294967296):
  Calls prog 54 #[.string s,.slice (some ⟨b,o,none⟩) ks.length c] w λe w'=>e=.returned (.int .i64 (dI ks s.data.toList))/\Below w.heap.size w w':=by
 have D:=aa hk;clear hk
 go_enter func54,ntmps54
 go_wp2_with fail
 go_loopw [5] (λ_ wr=>∃p:Nat,p<=s.size/\wr.heap[w.heap.size]?=some (.stringIter s p)/\Below w.heap.size w wr/\Hid (Gh ks s.data.toList p)) (λ_ wr=>s.size-wr.iterPos w.heap.size)
 case atStart=>exact⟨0,aV _,af _ _,az,λj _ h=>by omega⟩
 case round =>
  obtain⟨p,H,v,t,a⟩:=hrel;have n:=aa v;have i:=aa t;clear v t
  by_cases hlt:p<s.size
  ·have hn:=Lib.run_next_any_at (P:=prog) wr w.heap.size s p
   have l:=aa λty=>hn ty n.out hlt;clear hn;have x:p<s.data.toList.length:=by simpa using hlt
   obtain⟨r,f⟩:∃r:Nat,(Utf8.decode s p).1=r:=⟨_,rfl⟩;obtain⟨q,m⟩:∃q:Nat,p+(Utf8.decode s p).2=q:=⟨_,rfl⟩;rw[f,m]at l;have hn:=l.out;clear l;have y:(r:Int)<=2147483647:=by
    by_cases g:(s[p]'hlt).toNat<128
    ·rw[oe s p hlt g]at f;simp at f;omega
    ·have:=vC s p hlt (by omega);omega
   by_cases hin:ks.contains (ki r)=true
   ·have g:(s[p]'hlt).toNat<128:=by
     by_cases g:(s[p]'hlt).toNat<128
     ·exact g
     ·have:=(vC s p hlt (by omega)).1
      rw[zf r (by omega),h0]at hin;cases hin
    rw[oe s p hlt g]at f m;simp only at f m;have z:Hid (Gh ks s.data.toList q):=by
     subst m;intro j E F;rcases gG j p with h|h
     ·exact a j E h
     ·obtain rfl:j=p:=by omega
      show ks.contains (ki _)=true;rw[show((s.data.toList[j]).toNat:Int)=r by rw[<- f];rfl];exact hin
    have C:q<=s.size:=by omega
    have G:p<q:=by omega
    have k:=aa hin;clear f m g hin a;go_wp2_with fail;refine(Cx r (by omega) y _).mono ?_;rintro e u ⟨rfl,rfl⟩;go_wp2_with fail;have d:=aa (pr i.out (ag _) s q);refine(kZ b o c ks _ _ (D.below d.out hb) hl true k.out).mono ?_;rintro e u ⟨rfl,rfl⟩;go_wp2_with fail
    go_roundw
    case rel=>exact⟨q,C,rA _ _ _ _ _ n.out,d.out,z⟩
    case measure =>
     rw[show wr.iterPos w.heap.size=p by simp[World.iterPos,n.out],show(wr.iterAt w.heap.size s q).iterPos w.heap.size=q by simp[World.iterPos,rA _ _ _ _ _ n.out]];omega
   ·have A:ks.contains (dL (s.data.toList[p]'x))=false:=by
     by_cases g:(s[p]'hlt).toNat<128
     ·rw[oe s p hlt g]at f
      simp only at f;show ks.contains (ki _)=false;rw[show((s.data.toList[p]).toNat:Int)=r by rw[<- f];rfl];simpa using hin
     ·show ks.contains (ki _)=false
      rw[zf _ (by have:s.data.toList[p]=s[p]:=rfl;rw[this];omega)];exact h0
    have B:=aa (Az a.out x A);have k:=aa (show ks.contains (ki r)=false by simpa using hin);clear f m hin a A;go_wp2_with fail;refine(Cx r (by omega) y _).mono ?_;rintro e u ⟨rfl,rfl⟩;go_wp2_with fail;have d:=aa (pr i.out (ag _) s q);refine(kZ b o c ks _ _ (D.below d.out hb) hl false k.out).mono ?_;rintro e u ⟨rfl,rfl⟩;go_wp2_with fail;go_ret;exact⟨wG (by rw[B.out]),d.out⟩
  ·have hn:=py (P:=prog) wr w.heap.size s p
   have l:=aa λty=>hn ty n.out hlt;clear hn;have hn:=l.out;have B:=aa (CQ a.out (show¬p<s.data.toList.length by simpa using hlt));clear l a;go_wp2_with fail;go_ret;exact⟨wG (by rw[B.out];simp),i.out⟩
theorem Tryz.info59:(Tryz.prog.info? 59).map (λi=>(i.zero,i.size,i.bytes))=some (some (.agg #[.int .i64 0,.string ⟨#[]⟩,.int .i64 0]),3,32):=by kernel_rfl
def eO (al:List (Tok×Int)):List Value:=al.flatMap λp=>[.int .i64 p.1.kind,.string ⟨p.1.text.toArray⟩,.int .i64 p.2]
theorem np (al:List (Tok×Int)) (p:Tok×Int):eO (al++[p])=eO al++[.int .i64 p.1.kind,.string ⟨p.1.text.toArray⟩,.int .i64 p.2]:=by simp[eO]
theorem kM (l:Tx) (m:Nat):(⟨l.toArray⟩:ByteArray).extract 0 m=⟨(l.take m).toArray⟩:=by
 apply ByteArray.ext;simp[ByteArray.data_extract]
theorem pS (l:Tx) (m:Nat) (hm:m<=l.length):(⟨l.toArray⟩:ByteArray).extract m l.length=⟨(l.drop m).toArray⟩:=by
 apply ByteArray.ext;simp only[ByteArray.data_extract,List.extract_toArray,List.extract_eq_take_drop];rw[cH (by simp)]
theorem eu (w:World) (cs:List Value) (T:TypeId):∀j u,cs[j]?=some u->(w.alloc (.cells cs.toArray T)).cell? ((⟨w.heap.size,0,none⟩:Addr).add j)=some u:=by
 intro j u a;have e:(⟨w.heap.size,0,none⟩:Addr).add j=⟨w.heap.size,j,none⟩:=by
  unfold Addr.add;split
  ·rename_i h;subst h;rfl
  ·simp
 rw[e,gN _ _ j _ _ _ (af w (.cells cs.toArray T))]
 simpa using a
theorem cG {e:TypeId} {n:Nat} (h:w.ownsRow base e size v n xs):∀k,v.ownBlock=some k->base<=k:=by
 intro k a;rcases h.2 with⟨rfl,_⟩|⟨g,b,c,rfl,d,_⟩
 ·cases a
 ·simp[Value.ownBlock]at a;omega
theorem sS {e:TypeId} {n:Nat} (h:w.ownsRow base e size v n xs) (hg:w.grownBy w' v.ownBlock) (hb:b<base) (hw:b<w.heap.size):w'.heap[b]?=w.heap[b]?:=
 hg.block b hw λe=>by have:=cG h b e.symm;omega
structure LX (w0:World) (T:Nat) (w:World) (l:Tx) (al:List (Tok×Int)) (v:Value) (n:Int):Prop where
 text:w.heap[T]?=some (.cells #[.string ⟨l.toArray⟩] 9 (0,0))
 out:w.heap[T+1]?=some (.cells #[v] 48 (0,0))
 line:w.heap[T+1+1]?=some (.cells #[.int .i64 n] 3 (0,0))
 own:w.ownsRow (T+1+1+1) 59 3 v al.length (eO al)
 bel:Below w0.heap.size w0 w
 le:w0.heap.size<=T
theorem LX.cut (h:LX w0 T w l al v n) (k:Int) (m:Nat) {o:Obj} {g cap:Nat}
 (hown:w1.ownsRow (T+1+1+1) 59 3 (.slice (some ⟨g,0,none⟩) (al.length+1) cap) (al.length+1) (eO al++[.int .i64 k,.string ⟨(l.take m).toArray⟩,.int .i64 n]))
 (hg:((w.alloc o).drew).grownBy w1 v.ownBlock) (h0:w1.heap[T]?=some (.cells #[.string ⟨l.toArray⟩] 9 (0,0))) (h1:w1.heap[T+1]?=some (.cells #[v] 48 (0,0))) (h2:w1.heap[T+1+1]?=some (.cells #[.int .i64 n] 3 (0,0))):
  LX w0 T ((w1.setCell ⟨T+1,0,none⟩ (.slice (some ⟨g,0,none⟩) (al.length+1) cap)).setCell ⟨T,0,none⟩ (.string ⟨(l.drop m).toArray⟩)) (l.drop m) (al++[(⟨k,l.take m⟩,n)]) (.slice (some ⟨g,0,none⟩) (al.length+1) cap) n:=by
 have d:=ab h.line;have a:=h.le;have b:(w1.setCell ⟨T+1,0,none⟩ (.slice (some ⟨g,0,none⟩) (al.length+1) cap)).heap[T]?=some (.cells #[.string ⟨l.toArray⟩] 9 (0,0)):=by
  rw[aM _ _ _ _ (show T≠T+1 by omega)];exact h0
 refine⟨iw b,?_,?_,?_,?_,h.le⟩
 ·rw[aM _ _ _ _ (show T+1≠T by omega)];exact iw h1
 ·rw[aM _ _ _ _ (show T+1+1≠T by omega),aM _ _ _ _ (show T+1+1≠T+1 by omega)];exact h2
 ·rw[np,ac]
  exact bg (bg hown (show T+1<_ by omega) _) (show T<_ by omega) _
 ·have c:w0.heap.size<=(w.alloc o).drew.heap.size:=by simp;have:=h.bel.size;omega
  exact((((h.bel.alloc h.bel.size o).drew).grown hg c λk hk=>by have:=cG h.own k hk;omega).setCell (show w0.heap.size<=T+1 by omega) _).setCell a _
theorem oP (w0 w:World) (T:Nat) (l:Tx) (al:List (Tok×Int)) (v:Value) (n:Int) (h:LX w0 T w l al v n) (k:Int) (m:Nat) (hm:m<=l.length) (hal:al.length<=1000000):
  Calls prog 50 #[.int .i64 k,.int .i64 m,.pointer (some ⟨T+1,0,none⟩),.pointer (some ⟨T,0,none⟩),.pointer (some ⟨T+1+1,0,none⟩)] w λe w' =>
   e=.returned (.tuple #[])/\∃v',LX w0 T w' (l.drop m) (al++[(⟨k,l.take m⟩,n)]) v' n:=by
 have E:=bp h.text;have c1:=bp h.out;have c2:=bp h.line;obtain⟨D,A,j,o,p⟩:=cX Tryz.info59;have K:=kM l m;have L:=pS l m hm;have C:m<=(⟨l.toArray⟩:ByteArray).size:=hm;have d:=aa h.own;have B:=ab h.line;have H:(w.alloc (.cells #[.int .i64 k,.string ⟨(l.take m).toArray⟩,.int .i64 n] 59)).cell? ⟨T+1,0,none⟩=some v:=(aI (w:=w) (aK _ _ _ (show T+1<w.heap.size by omega))).trans c1
 go_enter func50,ntmps50
 go_wp2_with fail
 go_region_law (refine step_append_lies _ rfl (.tmp 7) (.tmp 14) 48 rfl (T+1+1+1) 59 D _ 3 32 underlying48 A j o p rfl (by decide) v al.length _ (by simp[Act.eval,Act.put]) (d.alloc _).drew ⟨w.heap.size,0,none⟩ 1 1 [.int .i64 k,.string ⟨(l.take m).toArray⟩,.int .i64 n] (by simp[Act.eval,Act.put]) rfl (eu w _ _) (by simp[Value.oneCell']) (by omega) (by unfold maxLen;omega) (by omega) (by simp;omega) _ rfl ?_;intro g z M b a c q;have f:=(sS (d.alloc _).drew a (show T<T+1+1+1 by omega) (by simp;omega)).trans ((aK _ _ _ (by omega)).trans h.text);have i:=(sS (d.alloc _).drew a (show T+1<T+1+1+1 by omega) (by simp;omega)).trans ((aK _ _ _ (by omega)).trans h.out);have r:=(sS (d.alloc _).drew a (show T+1+1<T+1+1+1 by omega) (by simp;omega)).trans ((aK _ _ _ (by omega)).trans h.line);have F:=bp f;have G:=bp i;have I:=dm f;have J:=dm i;have x:=aa a;have y:=aa b;have s:=aa f;have t:=aa i;have u:=aa r;clear a b c f i r)
 all_goals
  go_wp2_with fail;go_end0;exact⟨rfl,_,h.cut k m y.out x.out s.out t.out u.out⟩
theorem Bk {P:Program} {name:String} {v:Array Value} (h:w.var? P name=some v) (hb:Below w.heap.size w w'):w'.var? P name=some v:=by
 unfold World.var? at *;cases hg:P.globalNamed name with
 | none=>simp[hg]at h
 | some g =>
  simp only[hg,aj]at h ⊢;have b:g<w.heap.size:=by
   rcases gG g w.heap.size with a|a
   ·exact a
   ·rw[Array.getElem?_eq_none a]at h;simp at h
  rw[hb.block g b];exact h
structure Tabs (w:World):Prop where
 sp : Lib.TabIs prog w "strings.asciiSpace" .u8 Lib.asciiSpaceTab
 er : ∃ tp p, w.var? prog "strconv.ErrRange" = some #[.iface tp p]
theorem Tabs.below (h:Tabs w) (hb:Below w.heap.size w w'):Tabs w':=
 ⟨Lib.tabBelow_of_tabIs h.sp w' hb,by obtain⟨b,p,a⟩:=h.er;exact⟨b,p,Bk a hb⟩⟩
def txs (l:List Tx):List Value:=l.map λt=>.string ⟨t.toArray⟩
theorem vQ (l:List UInt8) (h:(l.all λu=>decide (u.toNat<128))=true):∀(j:Nat) (b:UInt8),l[j]?=some b->b.toNat<128:=by
 intro j b a;have:=fZ.1 h b (aJ a)
 simpa using this
theorem Fz (w0 w:World) (h:Below w0.heap.size w0 w) (ht:Tabs w0):
  Calls prog 56 #[] w λe w'=>e=.returned (.slice (some ⟨w.heap.size,0,none⟩) 12 12)/\w.alloc (.cells (txs jx).toArray 9)=w':=by
 go_enter func56,ntmps56
 go_wp2_with fail;refine(Tryz.strings_Fields_laid _ _ (by decide) (vQ _ (by decide +kernel)) (ht.below h).sp).mono ?_;rintro e w' ⟨rfl,rfl⟩;have a:Lib.fields ((⟨#[102,117,110,99,32,118,97,114,32,112,116,114,32,105,102,32,101,108,115,101,32,119,104,105,108,101,32,111,117,116,32,102,114,101,101,32,100,114,97,105,110,32,114,101,116,117,114,110,32,110,101,119,32,105,110]⟩:ByteArray).data.toList)=jx:=by decide +kernel
 rw[a];clear a;go_wp2_with fail;go_ret;exact⟨rfl,rfl⟩
theorem gM (b n c:Nat) (l:List Tx) (x:Tx) (w:World) (hn:n=l.length) (hl:l.length<=100000) (hb:w.heap[b]?=some (.cells (txs l).toArray 9 (0,0))) (r:Bool) (hr:l.contains x=r):
  Calls prog 55 #[.slice (some ⟨b,0,none⟩) n c,.string ⟨x.toArray⟩] w λe w'=>e=.returned (.bool r)/\w=w':=by
 subst hn hr;refine(Tryz.slices_Contains_string b 0 l.length c (l.map λt=>⟨t.toArray⟩) ⟨x.toArray⟩ w (by simp) (by omega) ?_).mono ?_
 ·intro j a
  rw[gN w b (0+j) _ _ _ hb];simp only[be]at a;simp[txs,dD,a]
 ·rintro e w' ⟨rfl,rfl⟩
  refine⟨kB ?_,rfl⟩;rw[cH (by simp),Bool.eq_iff_iff,Lib.containsS_iff,iz]
  constructor
  ·intro h
   obtain⟨t,d,e⟩:=bM.1 h;have:t=x:=by simpa using aB (λb:ByteArray=>b.data.toList) e
   rw[<- this];exact d
  ·intro h;exact bM.2 ⟨x,h,rfl⟩
theorem Bn (w:World) (h:Below w0.heap.size w0 w) (ht:Tabs w0):
  Calls prog 106 #[.string ⟨#[124,124,32,38,38,32,61,61,32,33,61,32,60,61,32,62,61,32,60,60,32,62,62]⟩] w λe w'=>e=.returned (.slice (some ⟨w.heap.size,0,none⟩) 8 8)/\w.alloc (.cells (txs lp).toArray 9)=w':=by
 refine(Tryz.strings_Fields_laid _ _ (by decide) (vQ _ (by decide +kernel)) (ht.below h).sp).mono ?_;rintro e w' ⟨rfl,rfl⟩;have a:Lib.fields ((⟨#[124,124,32,38,38,32,61,61,32,33,61,32,60,61,32,62,61,32,60,60,32,62,62]⟩:ByteArray).data.toList)=lp:=by decide +kernel
 rw[a];exact⟨rfl,rfl⟩
theorem Bo (w0 w:World) (h:Below w0.heap.size w0 w) (ht:Tabs w0) (l:Tx) (hl:l.length<=4294967296):
  Calls prog 58 #[.string ⟨l.toArray⟩] w λe w'=>e=.returned (.bool (oK l))/\Below w.heap.size w w':=by
 by_cases h2:2<=l.length
 ·obtain⟨r,c⟩:∃r,lp.contains (l.take 2)=r:=⟨_,rfl⟩
  have a:=aa (show oK l=r by unfold oK;rw[c];simp[h2]);have i:=kM l 2;have b:(⟨l.toArray⟩:ByteArray).size=l.length:=rfl;have hd:decide ((2:Int)<=(l.length:Int))=true:=by simp;omega
  have g:(2:Int)<=(l.length:Int):=by omega
  have f:=aa (Bn w.drew h.drew ht);have d:=aa (gM w.heap.size 8 8 lp (l.take 2) (w.alloc (.cells (txs lp).toArray 9)).drew rfl (by decide) (af w _) r c)
  go_enter func58,ntmps58
  go_wp2_with fail
  go_region_with (first|(go_at_call 106;refine f.mono ?_;rintro e u ⟨rfl,rfl⟩)|(go_at_call 55;refine d.mono ?_;rintro e u ⟨rfl,rfl⟩))
  all_goals go_wp2_with fail
  all_goals go_ret
  all_goals exact⟨kB a.symm,((ai w.heap.size w).alloc (ag _) _).drew⟩
 ·have a:=aa (show oK l=false by unfold oK;simp[h2])
  have b:(⟨l.toArray⟩:ByteArray).size=l.length:=rfl;have hd:decide ((2:Int)<=(l.length:Int))=false:=by simp;omega
  go_enter func58,ntmps58
  go_wp2_with fail
  go_region
  all_goals go_wp2_with fail
  all_goals go_ret
  all_goals exact⟨kB a.symm,(ai w.heap.size w).drew⟩
def jV (w:World) (b:Nat):Prop:=∃c a:Int,w.heap[b]?=some (.cells #[.int .i64 c,.int .i64 a] 122 (0,0))
def jP (o:Option (List Tok)) (w:World) (e:Ending) (w':World):Prop:=
 Below w.heap.size w w'/\match o with
 | none=>∃b,e=.returned (.tuple #[.slice none 0 0,.iface 52 (.pointer (some ⟨b,0,none⟩))])/\jV w' b
 | some ts=>∃v al,e=.returned (.tuple #[v,.nilIface])/\al.map (·.1)=ts/\w'.ownsRow w.heap.size 59 3 v al.length (eO al)
def pz (l:Tx) (al:List (Tok×Int)) (o:Option (List Tok)):Prop:=∃f,l.length<=f/\rp f l (al.map (·.1))=o
theorem yN {base':Nat} {e:TypeId} {n:Nat} (h:w.ownsRow base e size v n xs) (hb:base'<=base):w.ownsRow base' e size v n xs:=by
 obtain⟨d,c⟩:=h;refine⟨d,?_⟩;rcases c with c|⟨g,a,b,f,i,r⟩
 ·exact .inl c
 ·exact .inr ⟨g,a,b,f,by omega,r⟩
theorem jP.ok (hT:w.heap.size<=T) (ho:o=some (al.map (·.1)++[⟨5,[]⟩])) (hb:Below w.heap.size w w1)
 (hown:w1.ownsRow (T+1+1+1) 59 3 v (al.length+1) (eO al++[.int .i64 5,.string ⟨#[]⟩,.int .i64 n])):jP o w (.returned (.tuple #[v,.nilIface])) w1:=by
 subst ho;refine⟨hb,v,al++[(⟨5,[]⟩,n)],rfl,by simp,?_⟩;rw[np,ac];exact yN hown (by omega)
theorem jP.bad (ho:o=none) (hb:Below w.heap.size w w1) (hf:jV w1 b):jP o w (.returned (.tuple #[.slice none 0 0,.iface 52 (.pointer (some ⟨b,0,none⟩))])) w1:=by
 subst ho;exact⟨hb,b,rfl,hf⟩
theorem pz.nil (h:pz [] al o):o=some (al.map (·.1)++[⟨5,[]⟩]):=by
 obtain⟨f,_,h⟩:=h;rw[<- h];cases f<;>rfl
theorem pz.skip (h:pz (c::r) al o) (hs:dx (c::r)=some (none,s)) (hl:s.length<=r.length):pz s al o:=by
 obtain⟨f,a,h⟩:=h;cases f with
 | zero=>simp at a
 | succ f =>
  simp only[rp,hs]at h;exact⟨f,by simp at a;omega,h⟩
theorem pz.token {t:Tok} (h:pz (c::r) al o) (hs:dx (c::r)=some (some t,s)) (hl:s.length<=r.length):pz s (al++[(t,n)]) o:=by
 obtain⟨f,a,h⟩:=h;cases f with
 | zero=>simp at a
 | succ f =>
  simp only[rp,hs]at h;exact⟨f,by simp at a;omega,by rw[<- h];simp⟩
theorem pz.fault (h:pz (c::r) al o) (hs:dx (c::r)=none):o=none:=by
 obtain⟨f,a,h⟩:=h;cases f with
 | zero=>simp at a
 | succ f=>simp only[rp,hs]at h;exact h.symm
theorem K9 (p:UInt8->Bool) (l:Tx):(l.dropWhile p).length<=l.length:=(List.dropWhile_sublist p).length_le
theorem uZ (l:Tx) (c:UInt8): -1<=Lib.indexByte l c:=by
 induction l with
 | nil=>simp[Lib.indexByte]
 | cons b r ih =>
  simp only[Lib.indexByte];split
  ·omega
  ·split<;>omega
theorem KE:∀l:Tx,(Lib.indexByte l 10<0/\(l.dropWhile λu=>decide (u≠10))=[])\/∃k:Nat,Lib.indexByte l 10=k/\k<=l.length/\(l.dropWhile λu=>decide (u≠10))=l.drop k
 | []=>.inl ⟨by decide,rfl⟩
 | c::r=>by
  by_cases hc:c=10
  ·subst hc
   exact .inr ⟨0,by simp[Lib.indexByte],by simp,by simp⟩
  ·rcases KE r with⟨a,b⟩|⟨k,a,b,d⟩
   ·refine .inl ⟨?_,by rw[yh,ax (by simpa using hc)];exact b⟩
    have e:(c==10)=false:=by simpa using hc
    simp only[Lib.indexByte,e,bl,gy];have:Lib.indexByte r 10 = -1:=by
     have:=uZ r 10;omega
    simp[this]
   ·refine .inr ⟨k+1,?_,by simp;omega,by rw[yh,ax (by simpa using hc)];exact d⟩
    have e:(c==10)=false:=by simpa using hc
    simp only[Lib.indexByte,e,bl,gy,a];rw[ap (by simp<;>omega)]
    rfl
theorem rL (l:Tx) (w:World) (b:Bool) (hb:jJ l=b):Calls prog 51 #[.string ⟨l.toArray⟩,.string ⟨#[47,47]⟩] w λe w'=>e=.returned (.bool b)/\w=w':=by
 subst hb;refine(Tryz.strings_HasPrefix _ _ w).mono ?_;rintro e w' ⟨rfl,rfl⟩;exact⟨rfl,rfl⟩
theorem uY (l:Tx) (w:World) (v:Int) (hv:Lib.indexByte l 10=v):Calls prog 52 #[.string ⟨l.toArray⟩,.int .u8 10] w λe w'=>e=.returned (.int .i64 v)/\w=w':=by
 subst hv;refine(Tryz.strings_IndexByte _ _ w).mono ?_;rintro e w' ⟨rfl,rfl⟩;exact⟨rfl,rfl⟩
theorem LX.setText (h:LX w0 T w l al v n) (l':Tx):LX w0 T (w.setCell ⟨T,0,none⟩ (.string ⟨l'.toArray⟩)) l' al v n:=
 ⟨iw h.text,by rw[aM _ _ _ _ (show T+1≠T by omega)];exact h.out,by rw[aM _ _ _ _ (show T+1+1≠T by omega)];exact h.line,
  bg h.own (show T<_ by omega) _,h.bel.setCell h.le _,h.le⟩
theorem LX.setLine (h:LX w0 T w l al v n) (n':Int):LX w0 T (w.setCell ⟨T+1+1,0,none⟩ (.int .i64 n')) l al v n':=
 ⟨by rw[aM _ _ _ _ (show T≠T+1+1 by omega)];exact h.text,by rw[aM _ _ _ _ (show T+1≠T+1+1 by omega)];exact h.out,iw h.line,
  bg h.own (show T+1+1<_ by omega) _,h.bel.setCell (show w0.heap.size<=T+1+1 by have:=h.le;omega) _,h.le⟩
theorem LX.on (h:LX w0 T w l al v n) (hb:Below w.heap.size w w'):LX w0 T w' l al v n:=by
 refine⟨by rw[hb.block _ (ab h.text)];exact h.text,by rw[hb.block _ (ab h.out)];exact h.out,by rw[hb.block _ (ab h.line)];exact h.line,?_,h.bel.trans (hb.mono h.bel.size),h.le⟩;obtain⟨e,c⟩:=h.own;refine⟨e,?_⟩;rcases c with c|⟨g,a,b,i,f,d,r⟩
 ·exact .inl c
 ·exact .inr ⟨g,a,b,i,f,by rw[hb.block _ (ab d)];exact d,r⟩
theorem ke (w:World) (l:Tx) (ks:List Int) (m:Nat) (hm:dI ks l=m) (hl:ks.length<=1000) (h0:ks.contains 0=false) (hs:l.length<=4294967296) (k:Nat) (hk:ks.length=k):
  Calls prog 54 #[.string ⟨l.toArray⟩,.slice (some ⟨w.heap.size,0,none⟩) k k] (w.alloc (.cells (ks.map (Value.int .i64)).toArray 126)) λe w'=>e=.returned (.int .i64 m)/\Below w.heap.size w w':=by
 subst hm hk;refine(Fr w.heap.size 0 ks.length ks ⟨l.toArray⟩ (w.alloc (.cells (ks.map (Value.int .i64)).toArray 126)) ?_ hl (by simp) h0 hs).mono ?_
 ·intro j b
  rw[gN _ _ (0+j) _ _ _ (af w _)];simp[dD,b]
 ·rintro e w' ⟨rfl,a⟩
  exact⟨rfl,(az).trans (a.mono (by simp))⟩
theorem yZ (ks:List Int) (l:Tx):dI ks l<=l.length:=(List.takeWhile_sublist _).length_le
theorem uQ (h:ks.contains (dL c)=true):1<=dI ks (c::r):=by
 unfold dI;rw[ei,ax h];simp
theorem uX (w0 w:World) (h:Below w0.heap.size w0 w) (ht:Tabs w0):
  Calls prog 56 #[] w.drew λe w'=>e=.returned (.slice (some ⟨w.heap.size,0,none⟩) 12 12)/\(w.alloc (.cells (txs jx).toArray 9)).drew=w':=Fz w0 w.drew h.drew ht
theorem uA (M:Nat) (hM:M<18446744073709551616):∀(l:Tx) (acc:Nat),(∀u∈l,48<=u.toNat/\u.toNat<=57)->acc<=M->Lib.parseUintM M acc l=if M<l.foldl (λn u=>n*10+(u.toNat-48)) acc then .range else .ok (l.foldl (λn u=>n*10+(u.toNat-48)) acc)
 | [],acc,_,hacc=>by rw[Lib.parseUintM,List.foldl_nil,ap (by omega)]
 | c::r,acc,h,hacc=>by
  have b:=h c (by simp);rw[Lib.parseUintM,ax b,List.foldl_cons];have grow:∀(l:Tx) (a:Nat),a<=l.foldl (λn (u:UInt8)=>n*10+(u.toNat-48)) a:=by
   intro l
   induction l with
   | nil=>intro a;simp
   | cons d l ih=>intro a;rw[List.foldl_cons];exact ay (by omega) (ih _)
  have g:=grow r (acc*10+(c.toNat-48))
  by_cases h1:1844674407370955162<=acc
  ·rw[ax h1,ax (by omega)]
  ·rw[ap h1]
   by_cases h2:M<acc*10+(c.toNat-48)
   ·rw[ax h2,ax (by omega)]
   ·rw[ap h2]
    exact uA M hM r _ (λu hu=>h u (by simp[hu])) (by omega)
theorem xl {u:UInt8} (h:dL u=3):48<=u.toNat/\u.toNat<=57:=by
 unfold dL ki at h
 repeat' split at h
 all_goals first|omega|(exfalso;revert h;decide)|skip
theorem GB (p:UInt8->Bool):∀(l:Tx) (u:UInt8),u∈l.takeWhile p->p u=true
 | [],u,h=>by simp at h
 | c::r,u,h=>by
  rw[ei]at h
  by_cases hc:p c=true
  ·rw[ax hc]at h
   rcases aR.1 h with rfl|h
   ·exact hc
   ·exact GB p r u h
  ·rw[ap hc]at h;simp at h
theorem DH (l:Tx):∀u∈l.take (dI [3] l),48<=u.toNat/\u.toNat<=57:=by
 intro u a;have:l.take (dI [3] l)=l.takeWhile λu=>([3]:List Int).contains (dL u):=by
  unfold dI;exact List.prefix_iff_eq_take.1 (List.takeWhile_prefix _) |>.symm
 rw[this]at a;have b:=GB _ l u a;exact xl (by simpa using b)
theorem IC (hne:l≠[]) (h:∀u∈l,48<=u.toNat/\u.toNat<=57):Lib.parseUintB 32 l=if 4294967295<tY l then .range else .ok (tY l):=by
 unfold Lib.parseUintB;rw[ap hne];exact uA 4294967295 (by decide) l 0 h (by omega)
theorem qx (w0 w:World) (hb0:Below w0.heap.size w0 w) (ht:Tabs w0) (l:Tx) (hl:l.length<=4294967296) (hne:l≠[]) (h:∀u∈l,48<=u.toNat/\u.toNat<=57):
  Calls prog 57 #[.string ⟨l.toArray⟩,.int .i64 10,.int .i64 32] w λe w'=>Below w.heap.size w w'/\∃n er,e=.returned (.tuple #[.int .u64 n,er]) /\
   ((4294967295<tY l/\∃t p,er=.iface t p)\/(¬4294967295<tY l/\er=.nilIface/\n=tY l)):=by
 have a:=IC hne h
 by_cases hc:4294967295<tY l
 ·rw[ax hc]at a
  obtain⟨f,p,c⟩:=(ht.below hb0).er;refine(Tryz.strconv_ParseUint_10_at32_range_var ⟨l.toArray⟩ (by show l.length<=_;omega) a f p w c).mono ?_;rintro e w' ⟨N,rfl,_,_,b⟩;exact⟨b,_,_,rfl,.inl ⟨hc,_,_,rfl⟩⟩
 ·rw[ap hc]at a
  refine(Tryz.strconv_ParseUint_10_at32_ok ⟨l.toArray⟩ (by show l.length<=_;omega) _ a w).mono ?_;rintro e w' ⟨rfl,d⟩;refine⟨?_,_,_,rfl,.inr ⟨hc,rfl,rfl⟩⟩;rcases d with rfl|rfl
  ·exact ai _ _
  ·exact Lib.bytesWorld_below w 5 _
def qN (T:Nat) (w:World):Nat:=match w.heap[T]? with|some (.cells #[.string s] _ _)=>s.size|_=>0
theorem LX.left (h:LX w0 T w l al v n):qN T w=l.length:=by
 unfold qN;rw[h.text];rfl
theorem jR {a:Nat} (h1:qN T u=a) (h2:qN T w=b) (h:a<b):qN T u<qN T w:=by omega
theorem xk (c:Int):ki c=0\/ki c=1\/ki c=2\/ki c=3\/ki c=4:=by
 unfold ki
 (repeat' split)<;>simp
theorem LX.start (w:World) (l:Tx):LX w w.heap.size (((w.alloc (.cells #[.string ⟨l.toArray⟩] 9)).alloc (.cells #[.slice none 0 0] 48)).alloc (.cells #[.int .i64 0] 3)) l [] (.slice none 0 0) 0:=by
 have e:∀(u:World) (o:Obj),(u.alloc o).heap.size=u.heap.size+1:=λu o=>ah _ _;refine⟨?_,?_,?_,⟨rfl,.inl ⟨rfl,rfl⟩⟩,?_,ag _⟩
 ·rw[aK _ _ _ (by rw[e,e];omega),aK _ _ _ (by rw[e];omega)];exact af _ _
 ·rw[aK _ _ _ (by rw[e,e];omega)];exact(by rw[<- e w];exact af _ _)
 ·have:=af ((w.alloc (.cells #[.string ⟨l.toArray⟩] 9)).alloc (.cells #[.slice none 0 0] 48)) (.cells #[.int .i64 0] 3)
  rw[e,e]at this;exact this
 ·exact((az).alloc (by rw[e];omega) _).alloc (by rw[e,e];omega) _
def G7 (w:World) (l0:Tx) (wr:World):Prop:=∃l al v n,LX w w.heap.size wr l al v n/\pz l al (gI l0)/\al.length+l.length<=32768
theorem zO (w0 w:World) (h:Below w0.heap.size w0 w) (ht:Tabs w0) (l0:Tx) (hl0:l0.length<=1000000):
  Calls prog 14 #[.string ⟨l0.toArray⟩] w (jP (gI l0) w):=by
 by_cases hbig:32768<l0.length
 ·have D:=aa (show gI l0=none by unfold gI;rw[ax hbig])
  have Y:(⟨l0.toArray⟩:ByteArray).size=l0.length:=rfl;have hd:decide ((32768:Int)<(l0.length:Int))=true:=by simp;omega
  go_enter func14,ntmps14
  go_wp2_with fail
  go_step3
  go_wp2_with fail
  (try rw[iA])
  go_ret2;exact jP.bad D.out ((az).alloc (by simp) _) ⟨_,_,by have:=af (w.alloc (.cells #[.string ⟨l0.toArray⟩] 9)) (.cells #[.int .i64 3,.int .i64 0] 122);rw[ah]at this;exact this⟩
 ·have I:pz l0 [] (gI l0):=⟨l0.length,ag _,by unfold gI;rw[ap hbig];rfl⟩
  have ae:=aa I;have Y:(⟨l0.toArray⟩:ByteArray).size=l0.length:=rfl;have hd:decide ((32768:Int)<(l0.length:Int))=false:=by simp;omega
  have i:=aa (show G7 w l0 _ from⟨l0,[],_,_,LX.start w l0,I,by simp;omega⟩);clear I ae
  go_enter func14,ntmps14
  go_wp2_with fail
  go_step3
  go_wp2_with fail
  go_step3
  go_wp2_with fail;clear Y hd
  go_loopw [7] (λt wr=>t=.int .i64 0/\Hid (G7 w l0 wr)) (λ_ wr=>qN w.heap.size wr)
  case atStart=>exact⟨rfl,i⟩
  case round =>
   clear i;obtain⟨rfl,hr⟩:=hrel;obtain⟨l,N,v,n,Z,I,O⟩:=hr.out;clear hr;have p:=aa Z;have C:=aa I;have T:=aa Z.left;clear Z I;have A:=bp p.text;have c1:=bp p.out.out;have c2:=bp p.line;have f0:=dm p.text;have f2:=dm p.line;have Y:(⟨l.toArray⟩:ByteArray).size=l.length:=rfl
   match l with
   | [] =>
    have HT:=aa C.nil;obtain⟨i0,hi,ar,au,av⟩:=cX Tryz.info59;have aD:=ab p.line;have X:=O;simp only[aW,Nat.add_zero]at X;clear f0 f2 O
    go_wp2_with (at_builtin;refine wpList_append_own _ rfl _ _ 48 rfl (w.heap.size+1+1+1) 59 i0 _ 3 32 underlying48 hi ar au av rfl (by decide) _ _ _ rfl (p.own.alloc _) ⟨wr.heap.size,0,none⟩ 1 1 [.int .i64 5,.string ⟨#[]⟩,.int .i64 n] rfl rfl (eu wr _ _) (by simp[Value.oneCell']) (by unfold maxLen;omega) (by omega) (by simp;omega) ?_;intro v' w1 P F _;have HG:=aa F;have HW:=aa P;clear F P)
    (try rw[iA])
    go_ret2;exact jP.ok (ag _) HT.out ((p.bel.alloc p.bel.size _).grown HG.out (by simp;omega) λk hk=>by have:=cG p.own k hk;omega) HW.out
   | c::r =>
    have am:N.length+(r.length+1)<=32768:=by simpa using O
    have aw:(c::r).toArray.size=r.length+1:=by simp
    by_cases hs2:jJ (c::r)=true
    ·have ac:dx (c::r)=some (none,(c::r).dropWhile λu=>decide (u≠10)):=by unfold dx;simp only;rw[ax hs2]
     have a5:(c::r).dropWhile (λu=>decide (u≠10))=r.dropWhile λu=>decide (u≠10):=by
      rw[yh,ax];have:c=47:=by
       unfold jJ at hs2;simp[List.isPrefixOf]at hs2;exact hs2.1.symm
      subst this;decide
     have d:=aa (C.skip ac (by rw[a5];exact K9 _ _));have X:((c::r).dropWhile λu=>decide (u≠10)).length<=r.length:=by rw[a5];exact K9 _ _
     have a2:=aa X;clear ac a5 X;go_wp2_with fail;refine(rL (c::r) _ true hs2).mono ?_;rintro e u ⟨rfl,rfl⟩;go_wp2_with fail;rcases KE (c::r)with⟨h1,h2⟩|⟨k,h1,h2,h3⟩
     ·have j:=aa (p.setText ([]:Tx))
      rw[h2]at d a2;obtain⟨q,hq⟩:∃q,Lib.indexByte (c::r) 10=q:=⟨_,rfl⟩;rw[hq]at h1;clear h2;have HQ:=aa hq;clear hq;refine(uY (c::r) _ q HQ.out).mono ?_;rintro e u ⟨rfl,rfl⟩;go_wp2_with fail
      go_roundw
      case rel=>exact⟨rfl,[],N,v,n,j.out,d.out,by simp;omega⟩
      case measure=>exact jR j.left T.out (by simp)
     ·rw[h3]at d a2
      have j:=aa (p.setText ((c::r).drop k));have a8:=a2.out;have aA:k<=r.length+1:=by simpa using h2
      have HQ:=aa h1;clear h1 h3;refine(uY (c::r) _ k HQ.out).mono ?_;rintro e u ⟨rfl,rfl⟩;have aq:(⟨(c::r).toArray⟩:ByteArray).extract k (r.length+1)=⟨((c::r).drop k).toArray⟩:=pS (c::r) k h2;go_wp2_with fail
      go_roundw
      case rel=>exact⟨rfl,_,N,v,n,j.out,d.out,by omega⟩
      case measure=>exact jR j.left T.out (by simp at a8 ⊢;omega)
    ·have Q:jJ (c::r)=false:=by simpa using hs2
     obtain⟨L,W⟩:∃L,dL c=L:=⟨_,rfl⟩;have HK:=aa (show ki ((c.toNat:Nat):Int)=L from W);have ak:L=0\/L=1\/L=2\/L=3\/L=4:=W▸xk _;have i:=aa (show dx (c::r)=if L=1 then some (none,r)
       else if L=2 then
        if 32<dI [2,3] (c::r)then none
        else some (some ⟨if jx.contains ((c::r).take (dI [2,3] (c::r)))=true then 4 else 1,(c::r).take (dI [2,3] (c::r))⟩,(c::r).drop (dI [2,3] (c::r)))
       else if L=3 then
        if(c=48/\1<dI [3] (c::r))\/0<dI [2] ((c::r).drop (dI [3] (c::r)))then none
        else if 4294967295<tY ((c::r).take (dI [3] (c::r)))then none
        else some (some ⟨2,(c::r).take (dI [3] (c::r))⟩,(c::r).drop (dI [3] (c::r)))
       else if L=4 then
        if oK (c::r)=true then some (some ⟨3,(c::r).take 2⟩,(c::r).drop 2)else some (some ⟨3,(c::r).take 1⟩,(c::r).drop 1)
       else none by unfold dx;simp only[Q,W];rfl)
     have aB:((c.toNat:Nat):Int)<=255:=by have:=UInt8.toNat_lt c;omega
     have a9:(0:Int)<=((c.toNat:Nat):Int):=by omega
     have ay:(⟨(c::r).toArray⟩:ByteArray)[0]'(by rw[Y];simp)=c:=rfl;have HP:=aa Q;clear hs2 Q W;go_wp2_with fail;refine(rL (c::r) _ false HP.out).mono ?_;rintro e u ⟨rfl,rfl⟩;go_wp2_with fail;refine(Cx c.toNat a9 (by omega) _).mono ?_;rintro e u ⟨rfl,rfl⟩;rw[HK.out];rcases ak with rfl|rfl|rfl|rfl|rfl
     ·have D:=aa (C.fault i.out)
      go_wp2_with fail
      go_region
      all_goals go_wp2_with fail
      all_goals (try rw[iA])
      all_goals go_ret2
      all_goals exact jP.bad D.out ((p.out).bel.alloc (p.out).bel.size _).drew ⟨_,_,af _ _⟩
     ·have d:=aa (C.skip (s:=r) i.out (ag _))
      have aq:(⟨(c::r).toArray⟩:ByteArray).extract 1 (r.length+1)=⟨r.toArray⟩:=pS (c::r) 1 (by simp)
      by_cases hnl:c.toNat=10
      ·have hq:((c.toNat:Int)==10)=true:=by simp;omega
       clear hnl;have j:=aa ((p.setLine (wrap64 (n+1))).setText r);go_wp2_with fail
       go_roundw
       case rel=>exact⟨rfl,r,N,v,_,j.out,d.out,by omega⟩
       case measure=>exact jR j.left T.out (by simp)
      ·have hq:((c.toNat:Int)==10)=false:=by simp;omega
       clear hnl;have j:=aa (p.setText r);go_wp2_with fail
       go_roundw
       case rel=>exact⟨rfl,r,N,v,n,j.out,d.out,by omega⟩
       case measure=>exact jR j.left T.out (by simp)
     ·obtain⟨m,K⟩:∃m,dI [2,3] (c::r)=m:=⟨_,rfl⟩
      have an:1<=m:=by rw[<- K];exact uQ (by rw[show dL c=2 from HK.out];decide)
      have a4:m<=r.length+1:=by rw[<- K];simpa using yZ [2,3] (c::r)
      have HM:=aa K;have V:=aa (show dx (c::r)=if 32<m then none else some (some ⟨if jx.contains ((c::r).take m)=true then 4 else 1,(c::r).take m⟩,(c::r).drop m) by rw[i.out,K];rfl);clear K i;go_wp2_with fail;refine(ke wr (c::r) [2,3] m HM.out (by decide) (by decide) (by simp;omega) 2 rfl).mono ?_;rintro e u ⟨rfl,R⟩;have a:=aa (p.on R);have a0:=aa (h.trans (a.bel.mono h.size));clear R A c1 c2 f0 f2;have A:=bp a.text;have c2:=bp a.line
      by_cases hbm:32<m
      ·have D:=aa (C.fault (by rw[V.out,ax hbm]))
       have G:((32:Int)<(m:Int)):=by omega
       go_wp2_with fail
       go_region
       all_goals go_wp2_with fail
       all_goals (try rw[iA])
       all_goals go_ret2
       all_goals exact jP.bad D.out ((a.out).bel.alloc (a.out).bel.size _).drew ⟨_,_,af _ _⟩
      ·have G:¬((32:Int)<(m:Int)):=by omega
       have ad:=kM (c::r) m;have H:m<=(c::r).length:=by simpa using a4
       cases hkc:jx.contains ((c::r).take m)with
       | true =>
        have d:=aa (C.token (n:=n) (s:=(c::r).drop m) (t:=⟨4,(c::r).take m⟩) (by rw[V.out,ap hbm,hkc];rfl) (by simp;omega));have HC:=aa (gM u.heap.size 12 12 jx ((c::r).take m) (u.alloc (.cells (txs jx).toArray 9)).drew rfl (by decide) (af u _) true hkc);have e1:(u.alloc (.cells (txs jx).toArray 9)).cell? ⟨w.heap.size,0,none⟩=some (.string ⟨(c::r).toArray⟩):=(aI (w:=u) (aK _ _ _ (ab a.text))).trans A;have a3:=aa (a.on (((ai u.heap.size u).alloc (ag _) (.cells (txs jx).toArray 9)).drew));clear hkc;go_wp2_with fail
        go_region_with (first|(go_at_call 56;refine(uX w0 u a0.out ht).mono ?_;rintro e q ⟨rfl,rfl⟩)|(go_at_call 55;refine HC.mono ?_;rintro e q ⟨rfl,rfl⟩))
        all_goals
         go_wp2_with fail;refine(oP w _ w.heap.size (c::r) N v n a3.out 4 m H (by omega)).mono ?_;rintro e z ⟨rfl,v',g⟩;have B:=aa g;clear g;go_wp2_with fail
         go_roundw
         case rel=>exact⟨rfl,_,_,_,_,B.out,d.out,by simp;omega⟩
         case measure=>exact jR B.left T.out (by simp;omega)
       | false =>
        have d:=aa (C.token (n:=n) (s:=(c::r).drop m) (t:=⟨1,(c::r).take m⟩) (by rw[V.out,ap hbm,hkc];rfl) (by simp;omega));have HC:=aa (gM u.heap.size 12 12 jx ((c::r).take m) (u.alloc (.cells (txs jx).toArray 9)).drew rfl (by decide) (af u _) false hkc);have e1:(u.alloc (.cells (txs jx).toArray 9)).cell? ⟨w.heap.size,0,none⟩=some (.string ⟨(c::r).toArray⟩):=(aI (w:=u) (aK _ _ _ (ab a.text))).trans A;have a3:=aa (a.on (((ai u.heap.size u).alloc (ag _) (.cells (txs jx).toArray 9)).drew));clear hkc;go_wp2_with fail
        go_region_with (first|(go_at_call 56;refine(uX w0 u a0.out ht).mono ?_;rintro e q ⟨rfl,rfl⟩)|(go_at_call 55;refine HC.mono ?_;rintro e q ⟨rfl,rfl⟩))
        all_goals
         go_wp2_with fail;refine(oP w _ w.heap.size (c::r) N v n a3.out 1 m H (by omega)).mono ?_;rintro e z ⟨rfl,v',g⟩;have B:=aa g;clear g;go_wp2_with fail
         go_roundw
         case rel=>exact⟨rfl,_,_,_,_,B.out,d.out,by simp;omega⟩
         case measure=>exact jR B.left T.out (by simp;omega)
     ·obtain⟨m,K⟩:∃m,dI [3] (c::r)=m:=⟨_,rfl⟩
      have an:1<=m:=by rw[<- K];exact uQ (by rw[show dL c=3 from HK.out];decide)
      have a4:m<=r.length+1:=by rw[<- K];simpa using yZ [3] (c::r)
      have a7:=aa (show∀u∈(c::r).take m,48<=u.toNat/\u.toNat<=57 by rw[<- K];exact DH _);obtain⟨J,a6⟩:∃J,dI [2] ((c::r).drop m)=J:=⟨_,rfl⟩;have HM:=aa K;have U:=aa a6;have V:=aa (show dx (c::r)=if(c=48/\1<m)\/0<J then none else if 4294967295<tY ((c::r).take m)then none else some (some ⟨2,(c::r).take m⟩,(c::r).drop m) by rw[i.out,K,a6];rfl);clear K a6 i;go_wp2_with fail;refine(ke wr (c::r) [3] m HM.out (by decide) (by decide) (by simp;omega) 1 rfl).mono ?_;rintro e u ⟨rfl,R⟩;have a:=aa (p.on R);have a0:=aa (h.trans (a.bel.mono h.size));clear R A c1 c2 f0 f2;have A:=bp a.text;have c2:=bp a.line;have ad:=kM (c::r) m;have H:m<=(c::r).length:=by simpa using a4
      have aE:(⟨(c::r).toArray⟩:ByteArray).extract m (r.length+1)=⟨((c::r).drop m).toArray⟩:=pS (c::r) m H;have ao:(c=48/\1<m)\/(((c.toNat:Int)==48)=true/\decide ((1:Int)<(m:Int))=false/\¬(c=48/\1<m))\/(((c.toNat:Int)==48)=false/\True/\¬(c=48/\1<m)):=by
       by_cases hc:c=48
       ·by_cases h1:1<m
        ·exact .inl ⟨hc,h1⟩
        ·exact .inr (.inl ⟨by rw[hc];rfl,by simp;omega,λh=>h1 h.2⟩)
       ·exact .inr (.inr ⟨by simp only[bS,ne_eq];exactλh=>hc (UInt8.toNat_inj.1 (by simp;omega)),trivial,λh=>hc h.1⟩)
      rcases ao with g|⟨hq,aj,g⟩|⟨hq,aj,g⟩
      ·have D:=aa (C.fault (by rw[V.out,ax (.inl g)]))
       have hq:((c.toNat:Int)==48)=true:=by rw[g.1];rfl
       have G:decide ((1:Int)<(m:Int))=true:=by simp;omega
       clear g;go_wp2_with fail
       go_region
       all_goals go_wp2_with fail
       all_goals (try rw[iA])
       all_goals go_ret2
       all_goals exact jP.bad D.out ((a.out).bel.alloc (a.out).bel.size _).drew ⟨_,_,af _ _⟩
      ·by_cases hm20:0<J
       ·have D:=aa (C.fault (by rw[V.out,ax (.inr hm20)]))
        have G:((0:Int)<(J:Int)):=by omega
        clear g;go_wp2_with fail;refine(ke u ((c::r).drop m) [2] J U.out (by decide) (by decide) (by simp;omega) 1 rfl).mono ?_;rintro e y ⟨rfl,S⟩;have f:=aa (a.on S);clear S A c2;have A:=bp f.text;have c2:=bp f.line;go_wp2_with fail
        go_region
        all_goals go_wp2_with fail
        all_goals (try rw[iA])
        all_goals go_ret2
        all_goals exact jP.bad D.out ((f.out).bel.alloc (f.out).bel.size _).drew ⟨_,_,af _ _⟩
       ·have G:¬((0:Int)<(J:Int)):=by omega
        have M:=aa (show dx (c::r)=_ by rw[V.out,ap (λh=>by rcases h with h|h;exact g h;exact hm20 h)]);clear g;go_wp2_with fail;refine(ke u ((c::r).drop m) [2] J U.out (by decide) (by decide) (by simp;omega) 1 rfl).mono ?_;rintro e y ⟨rfl,S⟩;have f:=aa (a.on S);have a1:=aa (h.trans (f.bel.mono h.size));clear S A c2;have A:=bp f.text;go_wp2_with fail;refine(qx w0 y a1.out ht ((c::r).take m) (by simp;omega) (by cases m with|zero=>omega|succ m=>simp) a7.out).mono ?_;rintro e z ⟨g,nn,er,rfl,E⟩;have o:=aa (f.on g);clear g A;have A:=bp o.text;have c2:=bp o.line;rcases E with⟨b,tt,pp,rfl⟩|⟨b,rfl,rfl⟩
        ·have D:=aa (C.fault (by rw[M.out,ax b]))
         clear b;go_wp2_with fail
         go_region
         all_goals go_wp2_with fail
         all_goals (try rw[iA])
         all_goals go_ret2
         all_goals exact jP.bad D.out ((o.out).bel.alloc (o.out).bel.size _).drew ⟨_,_,af _ _⟩
        ·have d:=aa (C.token (n:=n) (s:=(c::r).drop m) (t:=⟨2,(c::r).take m⟩) (by rw[M.out,ap b]) (by simp;omega))
         clear b;go_wp2_with fail;refine(oP w _ w.heap.size (c::r) N v n o.out 2 m H (by omega)).mono ?_;rintro e x ⟨rfl,v',Z⟩;have B:=aa Z;clear Z;go_wp2_with fail
         go_roundw
         case rel=>exact⟨rfl,_,_,_,_,B.out,d.out,by simp;omega⟩
         case measure=>exact jR B.left T.out (by simp;omega)
      ·by_cases hm20:0<J
       ·have D:=aa (C.fault (by rw[V.out,ax (.inr hm20)]))
        have G:((0:Int)<(J:Int)):=by omega
        clear g;go_wp2_with fail;refine(ke u ((c::r).drop m) [2] J U.out (by decide) (by decide) (by simp;omega) 1 rfl).mono ?_;rintro e y ⟨rfl,S⟩;have f:=aa (a.on S);clear S A c2;have A:=bp f.text;have c2:=bp f.line;go_wp2_with fail
        go_region
        all_goals go_wp2_with fail
        all_goals (try rw[iA])
        all_goals go_ret2
        all_goals exact jP.bad D.out ((f.out).bel.alloc (f.out).bel.size _).drew ⟨_,_,af _ _⟩
       ·have G:¬((0:Int)<(J:Int)):=by omega
        have M:=aa (show dx (c::r)=_ by rw[V.out,ap (λh=>by rcases h with h|h;exact g h;exact hm20 h)]);clear g;go_wp2_with fail;refine(ke u ((c::r).drop m) [2] J U.out (by decide) (by decide) (by simp;omega) 1 rfl).mono ?_;rintro e y ⟨rfl,S⟩;have f:=aa (a.on S);have a1:=aa (h.trans (f.bel.mono h.size));clear S A c2;have A:=bp f.text;go_wp2_with fail;refine(qx w0 y a1.out ht ((c::r).take m) (by simp;omega) (by cases m with|zero=>omega|succ m=>simp) a7.out).mono ?_;rintro e z ⟨g,nn,er,rfl,E⟩;have o:=aa (f.on g);clear g A;have A:=bp o.text;have c2:=bp o.line;rcases E with⟨b,tt,pp,rfl⟩|⟨b,rfl,rfl⟩
        ·have D:=aa (C.fault (by rw[M.out,ax b]))
         clear b;go_wp2_with fail
         go_region
         all_goals go_wp2_with fail
         all_goals (try rw[iA])
         all_goals go_ret2
         all_goals exact jP.bad D.out ((o.out).bel.alloc (o.out).bel.size _).drew ⟨_,_,af _ _⟩
        ·have d:=aa (C.token (n:=n) (s:=(c::r).drop m) (t:=⟨2,(c::r).take m⟩) (by rw[M.out,ap b]) (by simp;omega))
         clear b;go_wp2_with fail;refine(oP w _ w.heap.size (c::r) N v n o.out 2 m H (by omega)).mono ?_;rintro e x ⟨rfl,v',Z⟩;have B:=aa Z;clear Z;go_wp2_with fail
         go_roundw
         case rel=>exact⟨rfl,_,_,_,_,B.out,d.out,by simp;omega⟩
         case measure=>exact jR B.left T.out (by simp;omega)
     ·have ad:=kM (c::r) 1
      cases htwo:oK (c::r)with
      | true =>
       have aC:2<=r.length+1:=by
        have:2<=(c::r).length:=by
         unfold oK at htwo;simp only[bH,bw]at htwo;exact htwo.1
        simpa using this
       have d:=aa (C.token (n:=n) (s:=(c::r).drop 2) (t:=⟨3,(c::r).take 2⟩) (by rw[i.out,htwo];rfl) (by simp));have HT:=aa htwo;clear htwo;go_wp2_with fail;refine(Bo w0 _ (h.trans (p.bel.mono h.size)) ht (c::r) (by simp;omega)).mono ?_;rintro e u ⟨rfl,R⟩;rw[HT.out];have a:=aa (p.on R);clear R A c1 c2 f0 f2;go_wp2_with fail;refine(oP w u w.heap.size (c::r) N v n a.out 3 2 (by simp;omega) (by omega)).mono ?_;rintro e z ⟨rfl,v',g⟩;have B:=aa g;clear g;go_wp2_with fail
       go_roundw
       case rel=>exact⟨rfl,_,_,_,_,B.out,d.out,by simp;omega⟩
       case measure=>exact jR B.left T.out (by simp;omega)
      | false =>
       have d:=aa (C.token (n:=n) (s:=(c::r).drop 1) (t:=⟨3,(c::r).take 1⟩) (by rw[i.out,htwo];rfl) (by simp));have HT:=aa htwo;clear htwo;go_wp2_with fail;refine(Bo w0 _ (h.trans (p.bel.mono h.size)) ht (c::r) (by simp;omega)).mono ?_;rintro e u ⟨rfl,R⟩;rw[HT.out];have a:=aa (p.on R);clear R A c1 c2 f0 f2;go_wp2_with fail;refine(oP w u w.heap.size (c::r) N v n a.out 3 1 (by simp) (by omega)).mono ?_;rintro e z ⟨rfl,v',g⟩;have B:=aa g;clear g;go_wp2_with fail
       go_roundw
       case rel=>exact⟨rfl,_,_,_,_,B.out,d.out,by simp;omega⟩
       case measure=>exact jR B.left T.out (by simp)
section
open Go.Maps Go.WideMaps
theorem pO:Keyed prog 9:=string_keyed underlying9
theorem Et (w:World):(zeroValue 3).run prog w=.ok (.int .i64 0) w:=by kernel_rfl
theorem C7:IsMap (DataW.map []:DataW Unit):=⟨_,rfl⟩
theorem C6 (hD:IsMap D) (k:Lit) (v:DataW Unit):IsMap (D.put k v):=by obtain⟨a,rfl⟩:=hD;exact⟨_,rfl⟩
theorem Kr (hD:IsMap D) (k t:List UInt8) (v z:DataW Unit):(D.put (.string k) v).atKey (.string t) z=if k=t then v else D.atKey (.string t) z:=by
 by_cases h:k=t
 ·subst h;rw[ax rfl];exact atKey_put_same hD (by trivial) _ _
 ·rw[ap h];exact atKey_put_other (λe=>h (by cases e;rfl)) _ _
theorem DS {t:Tx} {c:Int} (h:(((((((((((((((((((DataW.map []:DataW Unit).put (.string [124,124]) (.lit (.int .i64 1))).put (.string [38,38]) (.lit (.int .i64 2))).put (.string [61,61]) (.lit (.int .i64 3))).put (.string [33,61]) (.lit (.int .i64 3))).put (.string [60]) (.lit (.int .i64 4))).put (.string [60,61]) (.lit (.int .i64 4))).put (.string [62]) (.lit (.int .i64 4))).put (.string [62,61]) (.lit (.int .i64 4))).put (.string [43]) (.lit (.int .i64 5))).put (.string [45]) (.lit (.int .i64 5))).put (.string [124]) (.lit (.int .i64 5))).put (.string [94]) (.lit (.int .i64 5))).put (.string [42]) (.lit (.int .i64 6))).put (.string [47]) (.lit (.int .i64 6))).put (.string [37]) (.lit (.int .i64 6))).put (.string [38]) (.lit (.int .i64 6))).put (.string [60,60]) (.lit (.int .i64 6))).put (.string [62,62]) (.lit (.int .i64 6))).atKey (.string t) (.lit (.int .i64 0))=.lit (.int .i64 c)):c=binds t:=by
 simp(maxDischargeDepth:=100) only[Kr,C6,C7]at h
 by_cases e17:([62,62]:List UInt8)=t
 ·rw[ax e17]at h;subst e17;cases h;rfl
 rw[ap e17]at h
 by_cases e16:([60,60]:List UInt8)=t
 ·rw[ax e16]at h;subst e16;cases h;rfl
 rw[ap e16]at h
 by_cases e15:([38]:List UInt8)=t
 ·rw[ax e15]at h;subst e15;cases h;rfl
 rw[ap e15]at h
 by_cases e14:([37]:List UInt8)=t
 ·rw[ax e14]at h;subst e14;cases h;rfl
 rw[ap e14]at h
 by_cases e13:([47]:List UInt8)=t
 ·rw[ax e13]at h;subst e13;cases h;rfl
 rw[ap e13]at h
 by_cases e12:([42]:List UInt8)=t
 ·rw[ax e12]at h;subst e12;cases h;rfl
 rw[ap e12]at h
 by_cases e11:([94]:List UInt8)=t
 ·rw[ax e11]at h;subst e11;cases h;rfl
 rw[ap e11]at h
 by_cases e10:([124]:List UInt8)=t
 ·rw[ax e10]at h;subst e10;cases h;rfl
 rw[ap e10]at h
 by_cases e9:([45]:List UInt8)=t
 ·rw[ax e9]at h;subst e9;cases h;rfl
 rw[ap e9]at h
 by_cases e8:([43]:List UInt8)=t
 ·rw[ax e8]at h;subst e8;cases h;rfl
 rw[ap e8]at h
 by_cases e7:([62,61]:List UInt8)=t
 ·rw[ax e7]at h;subst e7;cases h;rfl
 rw[ap e7]at h
 by_cases e6:([62]:List UInt8)=t
 ·rw[ax e6]at h;subst e6;cases h;rfl
 rw[ap e6]at h
 by_cases e5:([60,61]:List UInt8)=t
 ·rw[ax e5]at h;subst e5;cases h;rfl
 rw[ap e5]at h
 by_cases e4:([60]:List UInt8)=t
 ·rw[ax e4]at h;subst e4;cases h;rfl
 rw[ap e4]at h
 by_cases e3:([33,61]:List UInt8)=t
 ·rw[ax e3]at h;subst e3;cases h;rfl
 rw[ap e3]at h
 by_cases e2:([61,61]:List UInt8)=t
 ·rw[ax e2]at h;subst e2;cases h;rfl
 rw[ap e2]at h
 by_cases e1:([38,38]:List UInt8)=t
 ·rw[ax e1]at h;subst e1;cases h;rfl
 rw[ap e1]at h
 by_cases e0:([124,124]:List UInt8)=t
 ·rw[ax e0]at h;subst e0;cases h;rfl
 rw[ap e0]at h;have b:(0:Int)=c:=by cases h;rfl
 rw[<- b];unfold binds;rw[show iQ.find? (λr=>decide (r.1=t))=none from ?_]
 ·rfl
 ·rw[List.find?_eq_none]
  intro x a;simp only[iQ,aR,jG,or_false]at a;rcases a with rfl|rfl|rfl|rfl|rfl|rfl|rfl|rfl|rfl|rfl|rfl|rfl|rfl|rfl|rfl|rfl|rfl|rfl<;>simpa using by assumption
theorem vK (w:World) (t:Tx) (hl:t.length<=4294967296):Calls prog 213 #[.string ⟨t.toArray⟩] w λe w'=>e=.returned (.int .i64 (binds t))/\Below w.heap.size w w':=by
 have aq:=@run_makeMap prog;have y:=World.ownsMap_made (H:=Unit) w prog 9 (plainElem prog 3);obtain⟨w1,ar,z,a4⟩:=y.update (key:=.string ⟨#[124,124]⟩) (val:=.int .i64 1) (d:=.lit (.int .i64 1)) (ps:=[]) pO underlying110 (by decide) (keyOf_string_mk underlying9 (by decide)) (plainElem_int underlying3 (by decide));obtain⟨w2,au,A,a5⟩:=z.update (key:=.string ⟨#[38,38]⟩) (val:=.int .i64 2) (d:=.lit (.int .i64 2)) (ps:=[]) pO underlying110 (by decide) (keyOf_string_mk underlying9 (by decide)) (plainElem_int underlying3 (by decide));obtain⟨w3,av,B,a6⟩:=A.update (key:=.string ⟨#[61,61]⟩) (val:=.int .i64 3) (d:=.lit (.int .i64 3)) (ps:=[]) pO underlying110 (by decide) (keyOf_string_mk underlying9 (by decide)) (plainElem_int underlying3 (by decide));obtain⟨w4,aw,C,a7⟩:=B.update (key:=.string ⟨#[33,61]⟩) (val:=.int .i64 3) (d:=.lit (.int .i64 3)) (ps:=[]) pO underlying110 (by decide) (keyOf_string_mk underlying9 (by decide)) (plainElem_int underlying3 (by decide));obtain⟨w5,ax,D,a8⟩:=C.update (key:=.string ⟨#[60]⟩) (val:=.int .i64 4) (d:=.lit (.int .i64 4)) (ps:=[]) pO underlying110 (by decide) (keyOf_string_mk underlying9 (by decide)) (plainElem_int underlying3 (by decide));obtain⟨w6,ay,E,a9⟩:=D.update (key:=.string ⟨#[60,61]⟩) (val:=.int .i64 4) (d:=.lit (.int .i64 4)) (ps:=[]) pO underlying110 (by decide) (keyOf_string_mk underlying9 (by decide)) (plainElem_int underlying3 (by decide));obtain⟨w7,aA,F,ab⟩:=E.update (key:=.string ⟨#[62]⟩) (val:=.int .i64 4) (d:=.lit (.int .i64 4)) (ps:=[]) pO underlying110 (by decide) (keyOf_string_mk underlying9 (by decide)) (plainElem_int underlying3 (by decide));obtain⟨w8,aB,G,ac⟩:=F.update (key:=.string ⟨#[62,61]⟩) (val:=.int .i64 4) (d:=.lit (.int .i64 4)) (ps:=[]) pO underlying110 (by decide) (keyOf_string_mk underlying9 (by decide)) (plainElem_int underlying3 (by decide));obtain⟨w9,aC,I,ad⟩:=G.update (key:=.string ⟨#[43]⟩) (val:=.int .i64 5) (d:=.lit (.int .i64 5)) (ps:=[]) pO underlying110 (by decide) (keyOf_string_mk underlying9 (by decide)) (plainElem_int underlying3 (by decide));obtain⟨aD,af,a,K⟩:=I.update (key:=.string ⟨#[45]⟩) (val:=.int .i64 5) (d:=.lit (.int .i64 5)) (ps:=[]) pO underlying110 (by decide) (keyOf_string_mk underlying9 (by decide)) (plainElem_int underlying3 (by decide));obtain⟨aE,ah,b,L⟩:=a.update (key:=.string ⟨#[124]⟩) (val:=.int .i64 5) (d:=.lit (.int .i64 5)) (ps:=[]) pO underlying110 (by decide) (keyOf_string_mk underlying9 (by decide)) (plainElem_int underlying3 (by decide));obtain⟨aF,ai,f,M⟩:=b.update (key:=.string ⟨#[94]⟩) (val:=.int .i64 5) (d:=.lit (.int .i64 5)) (ps:=[]) pO underlying110 (by decide) (keyOf_string_mk underlying9 (by decide)) (plainElem_int underlying3 (by decide));obtain⟨aG,aj,g,N⟩:=f.update (key:=.string ⟨#[42]⟩) (val:=.int .i64 6) (d:=.lit (.int .i64 6)) (ps:=[]) pO underlying110 (by decide) (keyOf_string_mk underlying9 (by decide)) (plainElem_int underlying3 (by decide));obtain⟨aH,ak,h,O⟩:=g.update (key:=.string ⟨#[47]⟩) (val:=.int .i64 6) (d:=.lit (.int .i64 6)) (ps:=[]) pO underlying110 (by decide) (keyOf_string_mk underlying9 (by decide)) (plainElem_int underlying3 (by decide));obtain⟨aI,al,i,P⟩:=h.update (key:=.string ⟨#[37]⟩) (val:=.int .i64 6) (d:=.lit (.int .i64 6)) (ps:=[]) pO underlying110 (by decide) (keyOf_string_mk underlying9 (by decide)) (plainElem_int underlying3 (by decide));obtain⟨aJ,am,k,Q⟩:=i.update (key:=.string ⟨#[38]⟩) (val:=.int .i64 6) (d:=.lit (.int .i64 6)) (ps:=[]) pO underlying110 (by decide) (keyOf_string_mk underlying9 (by decide)) (plainElem_int underlying3 (by decide));obtain⟨aK,an,l,R⟩:=k.update (key:=.string ⟨#[60,60]⟩) (val:=.int .i64 6) (d:=.lit (.int .i64 6)) (ps:=[]) pO underlying110 (by decide) (keyOf_string_mk underlying9 (by decide)) (plainElem_int underlying3 (by decide));obtain⟨aL,ao,m,S⟩:=l.update (key:=.string ⟨#[62,62]⟩) (val:=.int .i64 6) (d:=.lit (.int .i64 6)) (ps:=[]) pO underlying110 (by decide) (keyOf_string_mk underlying9 (by decide)) (plainElem_int underlying3 (by decide));have T:Below w.heap.size w (w.alloc (.map #[] 0)):=az;have U:=T.grown a4 T.size λj hj=>by cases hj;exact ag _
 have V:=U.grown a5 U.size λj hj=>by cases hj;exact ag _
 have W:=V.grown a6 V.size λj hj=>by cases hj;exact ag _
 have X:=W.grown a7 W.size λj hj=>by cases hj;exact ag _
 have Y:=X.grown a8 X.size λj hj=>by cases hj;exact ag _
 have Z:=Y.grown a9 Y.size λj hj=>by cases hj;exact ag _
 have a0:=Z.grown ab Z.size λj hj=>by cases hj;exact ag _
 have a1:=a0.grown ac a0.size λj hj=>by cases hj;exact ag _
 have a2:=a1.grown ad a1.size λj hj=>by cases hj;exact ag _
 have n:=a2.grown K a2.size λj hj=>by cases hj;exact ag _
 have o:=n.grown L n.size λj hj=>by cases hj;exact ag _
 have p:=o.grown M o.size λj hj=>by cases hj;exact ag _
 have q:=p.grown N p.size λj hj=>by cases hj;exact ag _
 have r:=q.grown O q.size λj hj=>by cases hj;exact ag _
 have u:=r.grown P r.size λj hj=>by cases hj;exact ag _
 have v:=u.grown Q u.size λj hj=>by cases hj;exact ag _
 have x:=v.grown R v.size λj hj=>by cases hj;exact ag _
 have J:=x.grown S x.size λj hj=>by cases hj;exact ag _
 obtain⟨c,ap,a3,ae⟩:=m.lookup_int (kl:=.string t) pO underlying110 underlying3 (Et _) (key:=.string ⟨t.toArray⟩) (by have:=keyOf_string_mk (s:=⟨t.toArray⟩) underlying9 (by show t.toArray.size<=maxLen;unfold maxLen;simp;omega);simpa using this);have hc:=DS a3;subst hc;have HB:=aa J;clear a3 ae;clear m l k i h g f b a I G F E D C B A z y;clear J x v u r q p o n a2 a1 a0 Z Y X W V U T;clear S R Q P O N M L K ad ac ab a9 a8 a7 a6 a5 a4
 go_enter func213,ntmps213
 go_wp2_with fail;go_ret;exact⟨rfl,HB.out⟩
end
end Go.Proofs.YtbeaaimcpkogcaaGreatDoor
