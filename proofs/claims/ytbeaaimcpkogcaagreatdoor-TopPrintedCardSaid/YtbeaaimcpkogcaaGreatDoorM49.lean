/- Lemmas on the way to the claim. -/
import Derived.Test.YtbeaaimcpkogcaaGreatDoorM06
import Derived.Test.YtbeaaimcpkogcaaGreatDoorM26
import Derived.Test.YtbeaaimcpkogcaaGreatDoorM39
import Derived.Test.YtbeaaimcpkogcaaGreatDoorM48
set_option linter.unusedSimpArgs false
set_option linter.unusedVariables false
set_option maxHeartbeats 8000000
set_option maxRecDepth 100000
namespace Go.Proofs.YtbeaaimcpkogcaaGreatDoor
open Go.Proofs.Tryz Go.RowKit
variable {fs:List Fun} {r:List Int×Nat} {ws:List Int} {B G K S b c1 c2 g n pages pb st:Nat} {q u w z:World} {pv v x0 x1 x2 x3 x4 x5 x6:Value} {fr:Nat×Nat} {bs:List Nat} {l out:Tx} {a:Array Value}
def j9 (pages:Nat) (fs:List Fun):Option (List Int×Nat):=(eJ fs).bind λord=>(mo fs ord).bind λr=>if lh r.1.length r.2 pages=true then some r else none
theorem Dh (fs:List Fun):∀(l:List Nat) (s:GP),1<=s.words.length->1<=(l.foldl (BB fs) s).words.length
 | [],s,h=>h
 | k::l,s,h=>by
  rw[List.foldl_cons];refine Dh fs l _ ?_;unfold BB;split
  ·rename_i f hf
   have e:(dj f s).words=(cL [⟨30,6,5,0,0⟩] (mq 5 s.bytes ((cS (dp f s) f.ptr none (mi (dp f s) f.ptr f.body (fF 5 s.bytes ⟨s.words,s.bad,0,[]⟩))).ends.foldl (λg a=>fG a 6 g) (cS (dp f s) f.ptr none (mi (dp f s) f.ptr f.body (fF 5 s.bytes ⟨s.words,s.bad,0,[]⟩)))))).words:=rfl;rw[e,(gB [⟨30,6,5,0,0⟩] _).2.2];simp
  ·exact h
theorem CO {ord:List Nat} (h:mo fs ord=some r):1<=r.1.length/\r.1.length<=4096/\r.2%256=0/\256<=r.2/\r.2<=4096:=by
 rw[yY]at h;split at h
 ·cases h
 ·rename_i hn
  injection h with h;subst h;simp only;have b:1<=(mC fs ord).words.length:=Dh fs ord _ (by
   show 1<=(dt 0 (fg 5 ⟨[],false,0,[]⟩)).words.length;rw[(oC 0 (fg 5 ⟨[],false,0,[]⟩)).2.2];omega)
  have a:=(rj 0 5 (((mC fs ord).funcs mg).getD (0,0)).1 ⟨(mC fs ord).words,(mC fs ord).bad,0,[]⟩).2.2;rw[a];rw[a]at hn;simp only at hn ⊢;omega
theorem Hu {j:Nat} {n:Int} (h:ws[j]?=some n):(gf ws)[j]?=some (.int .u32 n):=by unfold gf;rw[aG,h];rfl
structure WordsAt (w:World) (v:Value) (ws:List Int):Prop where
 ex:∃g c,v=.slice (some ⟨g,0,none⟩) ws.length c/\px w g 0 ws/\∃cs fr,w.heap[g]?=some (.cells cs 40 fr)
theorem WordsAt.of (h:w.ownsRow B 40 1 v ws.length (gf ws)) (hn:1<=ws.length):WordsAt w v ws:=by
 rcases h.2 with⟨_,e⟩|⟨g,a,b,d,f,c,_⟩
 ·omega
 ·subst d
  refine⟨⟨g,a,rfl,λj n hj=>?_,_,_,c⟩⟩;have i:=(aE.1 hj).1;rw[cA,h.cellAt j (by omega)];exact Hu hj
theorem WordsAt.below (h:WordsAt w v ws) (hb:Below w.heap.size w u):WordsAt u v ws:=by
 obtain⟨g,c,e,hn,cs,b,a⟩:=h.ex;exact⟨g,c,e,hn.chg (Chg.of_below (S:=λ_=>False) hb) id,cs,b,(hb.block g (ab a)).trans a⟩
theorem vg {w':World} {n c:Int} (h:mX fs w (.returned (.tuple #[v,.int .i64 n,.int .i64 c])) w'):((eJ fs).bind (mo fs)=none/\(c=2\/c=13))\/∃r,(eJ fs).bind (mo fs)=some r/\c=0/\n=r.2/\w'.ownsRow w.heap.size 40 1 v r.1.length (gf r.1)/\∀x∈r.1,0<=x/\x<4294967296:=by
 obtain⟨_,h⟩:=h;have b:∀{a1 a2 a3 b1 b2 b3:Value},(Ending.returned (.tuple #[a1,a2,a3])=.returned (.tuple #[b1,b2,b3]))->a1=b1/\a2=b2/\a3=b3:=λe=>by
  injection e with e;injection e with e;have i:=aB (λa:Array Value=>a[0]?) e;have j:=aB (λa:Array Value=>a[1]?) e;have k:=aB (λa:Array Value=>a[2]?) e;exact⟨by simpa using i,by simpa using j,by simpa using k⟩
 cases hc:eJ fs with
 | none =>
  rw[hc]at h;have:=(b h).2.2;injection this with _ e;exact .inl ⟨rfl,.inl e⟩
 | some ord =>
  rw[hc]at h;cases hm:mo fs ord with
  | none =>
   rw[kV,hm]at h;have:=(b h).2.2;injection this with _ e;exact .inl ⟨by simpa using hm,.inr e⟩
  | some r =>
   rw[kV,hm]at h;obtain⟨p,l,m,o⟩:=h;obtain⟨g,d,f⟩:=b l;subst g;injection d with _ d;injection f with _ f;exact .inr ⟨r,by simpa using hm,f,d,m,o⟩
theorem wV (pages:Nat) (fs:List Fun):j9 pages fs=((eJ fs).bind (mo fs)).bind λr=>if lh r.1.length r.2 pages=true then some r else none:=by
 unfold j9;rw[Option.bind_assoc]
theorem yW (h:(eJ fs).bind (mo fs)=some r):1<=r.1.length/\r.1.length<=4096/\r.2%256=0/\256<=r.2/\r.2<=4096:=by
 rw[Option.bind_eq_some_iff]at h;obtain⟨a,_,h⟩:=h;exact CO h
theorem Ja (h:u.heap[b]?=some (.cells #[x0,x1,x2,x3,x4,x5,x6] 37 (0,0))) (c0 c1 c2 c3 c4 c5 c6:Value):
  (((((((u.setCell ⟨b,0,none⟩ c0).setCell ⟨b,1,none⟩ c1).setCell ⟨b,2,none⟩ c2).setCell ⟨b,3,none⟩ c3).setCell ⟨b,4,none⟩ c4).setCell ⟨b,5,none⟩ c5).setCell ⟨b,6,none⟩ c6).heap[b]?=some (.cells #[c0,c1,c2,c3,c4,c5,c6] 37 (0,0)) /\
  Chg (·=b) u (((((((u.setCell ⟨b,0,none⟩ c0).setCell ⟨b,1,none⟩ c1).setCell ⟨b,2,none⟩ c2).setCell ⟨b,3,none⟩ c3).setCell ⟨b,4,none⟩ c4).setCell ⟨b,5,none⟩ c5).setCell ⟨b,6,none⟩ c6):=by
 have a:(u.setCell ⟨b,0,none⟩ c0).heap[b]?=some (.cells #[c0,x1,x2,x3,x4,x5,x6] 37 (0,0)):=aA (j:=0) h c0;have c:((u.setCell ⟨b,0,none⟩ c0).setCell ⟨b,1,none⟩ c1).heap[b]?=some (.cells #[c0,c1,x2,x3,x4,x5,x6] 37 (0,0)):=aA (j:=1) a c1;have d:(((u.setCell ⟨b,0,none⟩ c0).setCell ⟨b,1,none⟩ c1).setCell ⟨b,2,none⟩ c2).heap[b]?=some (.cells #[c0,c1,c2,x3,x4,x5,x6] 37 (0,0)):=aA (j:=2) c c2;have e:((((u.setCell ⟨b,0,none⟩ c0).setCell ⟨b,1,none⟩ c1).setCell ⟨b,2,none⟩ c2).setCell ⟨b,3,none⟩ c3).heap[b]?=some (.cells #[c0,c1,c2,c3,x4,x5,x6] 37 (0,0)):=aA (j:=3) d c3;have f:(((((u.setCell ⟨b,0,none⟩ c0).setCell ⟨b,1,none⟩ c1).setCell ⟨b,2,none⟩ c2).setCell ⟨b,3,none⟩ c3).setCell ⟨b,4,none⟩ c4).heap[b]?=some (.cells #[c0,c1,c2,c3,c4,x5,x6] 37 (0,0)):=aA (j:=4) e c4;have g:((((((u.setCell ⟨b,0,none⟩ c0).setCell ⟨b,1,none⟩ c1).setCell ⟨b,2,none⟩ c2).setCell ⟨b,3,none⟩ c3).setCell ⟨b,4,none⟩ c4).setCell ⟨b,5,none⟩ c5).heap[b]?=some (.cells #[c0,c1,c2,c3,c4,c5,x6] 37 (0,0)):=aA (j:=5) f c5;have i:(((((((u.setCell ⟨b,0,none⟩ c0).setCell ⟨b,1,none⟩ c1).setCell ⟨b,2,none⟩ c2).setCell ⟨b,3,none⟩ c3).setCell ⟨b,4,none⟩ c4).setCell ⟨b,5,none⟩ c5).setCell ⟨b,6,none⟩ c6).heap[b]?=some (.cells #[c0,c1,c2,c3,c4,c5,c6] 37 (0,0)):=aA (j:=6) g c6;exact⟨i,(((((((Chg.refl (·=b) u).setCell (p:=⟨b,0,none⟩) (λ_=>rfl) _).setCell (p:=⟨b,1,none⟩) (λ_=>rfl) _).setCell (p:=⟨b,2,none⟩) (λ_=>rfl) _).setCell (p:=⟨b,3,none⟩) (λ_=>rfl) _).setCell (p:=⟨b,4,none⟩) (λ_=>rfl) _).setCell (p:=⟨b,5,none⟩) (λ_=>rfl) _).setCell (p:=⟨b,6,none⟩) (λ_=>rfl) _⟩
theorem iK (h:u.heap[b]?=some (.cells #[x0,x1,x2,x3,x4,x5,x6] 37 (0,0))):
  (u.cell? ⟨b,0,none⟩=some x0/\u.cell? ⟨b,1,none⟩=some x1/\u.cell? ⟨b,2,none⟩=some x2/\u.cell? ⟨b,3,none⟩=some x3/\u.cell? ⟨b,4,none⟩=some x4/\u.cell? ⟨b,5,none⟩=some x5/\u.cell? ⟨b,6,none⟩=some x6) /\
  (u.frozen? ⟨b,0,none⟩=false/\u.frozen? ⟨b,1,none⟩=false/\u.frozen? ⟨b,2,none⟩=false/\u.frozen? ⟨b,3,none⟩=false/\u.frozen? ⟨b,4,none⟩=false/\u.frozen? ⟨b,5,none⟩=false/\u.frozen? ⟨b,6,none⟩=false):=
 ⟨⟨(ae h 0).trans rfl,(ae h 1).trans rfl,(ae h 2).trans rfl,(ae h 3).trans rfl,(ae h 4).trans rfl,(ae h 5).trans rfl,(ae h 6).trans rfl⟩,
 aD u b 0 _ _ h,aD u b 1 _ _ h,aD u b 2 _ _ h,aD u b 3 _ _ h,aD u b 4 _ _ h,aD u b 5 _ _ h,aD u b 6 _ _ h⟩
abbrev z7:Array Value:=#[.int .i64 0,.int .i64 0,.int .i64 0,.slice none 0 0,.string ⟨#[]⟩,.slice none 0 0,.slice none 0 0]
def jb (pages:Nat) (fs:List Fun) (w':World) (a:Array Value) (c:Int):Prop:=
 match j9 pages fs with
 | none=>(c=2\/c=13)/\a=z7
 | some r=>c=0/\(1<=r.1.length/\r.1.length<=4096/\r.2%256=0/\256<=r.2/\r.2<=4096)/\(∀x∈r.1,0<=x/\x<4294967296)/\lh r.1.length r.2 pages=true /\
  ∃v G c2,a=ig pages r.2 v (.slice (some ⟨G,0,none⟩) 1 c2)/\WordsAt w' v r.1/\px w' G 0 [0]/\∃cs fr,w'.heap[G]?=some (.cells cs 40 fr)
theorem jb.mk {v:World} (hy:(eJ fs).bind (mo fs)=some r) (hn:r.1.length=n) (hst:r.2=st) (hlo:lh n st pages=true) (hr:∀x∈r.1,0<=x/\x<4294967296) (hw:WordsAt v (.slice (some ⟨g,0,none⟩) n c1) r.1) (hG:v.heap[G]?=some (.cells #[.int .u32 0] 40 (0,0))):
  jb pages fs v (ig pages st (.slice (some ⟨g,0,none⟩) n c1) (.slice (some ⟨G,0,none⟩) 1 c2)) 0:=by
 subst hn hst;have a:j9 pages fs=some r:=by rw[wV,hy,aj,ax hlo]
 unfold jb;rw[a];refine⟨rfl,yW hy,hr,hlo,.slice (some ⟨g,0,none⟩) r.1.length c1,G,c2,rfl,hw,λj n hj=>?_,_,_,hG⟩
 match j,hj with
 | 0,hj=>simp at hj;subst hj;exact(ae hG 0).trans rfl
def Gk (pages:Nat) (fs:List Fun) (w:World) (e:Ending) (w':World):Prop:=Below w.heap.size w w'/\∃a c,e=.returned (.tuple #[.agg a,.int .i64 c])/\jb pages fs w' a c
theorem WordsAt.chg1 {u':World} {cs:Array Value} (h:WordsAt u v ws) (hc:Chg (·=b) u u') (hb:u.heap[b]?=some (.cells cs 37 fr)):WordsAt u' v ws:=by
 obtain⟨g,c,e,hn,d,f,i⟩:=h.ex;have a:¬g=b:=λe=>by
  subst e;rw[i]at hb;injection hb with hb;injection hb with _ h9 _;exact absurd h9 (by decide)
 exact⟨g,c,e,hn.chg hc a,d,f,(hc.block g (ab i) a).trans i⟩
theorem PrgAt.below (h:PrgAt w w.heap.size pb pv bs fs) (hb:Below w.heap.size w u):PrgAt u u.heap.size pb pv bs fs:=by
 have a:=h.onA (aX.below hb);exact⟨a.node,a.own.weak λk hk _=>hk,a.funs.weak λk hk _=>hk,bu a.lt hb.size⟩
theorem Env.below (h:Env w w.heap.size bs fs) (hb:Below w.heap.size w u):Env u u.heap.size bs fs:=by
 have a:=h.onA (aX.below hb);exact⟨a.funs.weak λk hk _=>hk,a.mx,bu a.l4 hb.size⟩
theorem ve (pages:Nat) (hp1:16<=pages) (hp2:pages<=1024) (fs:List Fun) (bs:List Nat) (w:World) (pb:Nat) (pv:Value) (hP:PrgAt w w.heap.size pb pv bs fs) (hw:∀f∈fs,FunP f) (hE:Env w w.heap.size bs fs) (ht:Tab w):
  Calls prog 75 #[pB pb,.int .i64 pages] w (Gk pages fs w):=by
 have j:Below w.heap.size w (w.alloc (.cells z7 37)):=az;have Y:=aa (Jg fs bs _ pb pv (hP.below j) hw (hE.below j) (ht.below j));have HP:=aa (hP.below j);have HE:=aa (hE.below j);have HT:=aa (ht.below j);have HW:=aa hw;have R:=aa (show(w.alloc (.cells z7 37)).heap[w.heap.size]?=some (.cells z7 37 (0,0)) from dw rfl);have I:=aa j;have a8:(w.alloc (.cells z7 37)).heap.size=w.heap.size+1:=by simp
 clear hP hw hE ht j
 go_enter func75,ntmps75
 go_wp2_with fail;generalize w.alloc (.cells z7 37)=w1 at Y HP HE HT R I a8 ⊢;refine Y.mono ?_;rintro e u ⟨F,v,c,rfl,n,hr⟩;have J:=aa (I.trans (F.mono I.size));have af:=F.size;have y:=(F.block w.heap.size (by omega)).trans R.out;have HS:=aa (BG fs bs u pb pv (HP.below F) HW.out (HE.below F) (HT.below F));rcases vg hr with⟨V,hc⟩|⟨r,z,rfl,_,hv,X⟩
 ·have HF:=aa (λa c' (h:(c'=2\/c'=13)/\a=z7) u'=>(show jb pages fs u' a c' by unfold jb;rw[wV,V];exact h))
  obtain⟨q,f⟩:=iK y;have C:=aa y;obtain⟨q0,q1,q2,q3,q4,q5,q6⟩:=q;obtain⟨f0,f1,f2,f3,f4,f5,f6⟩:=f;clear hr V F y HS Y;have A:=aa (Ja C.out (.int .i64 0) (.int .i64 0) (.int .i64 0) (.slice none 0 0) (.string ⟨#[]⟩) (.slice none 0 0) (.slice none 0 0));have s:=aa (A.out.2.below J.out λi hi=>by omega);rcases hc with rfl|rfl
  all_goals
   go_wp2_with fail;exact aN (gK (p:=4) (u:=5) rfl _ _ w.heap.size 37 _ (0,0) _ rfl A.out.1 underlying37 rfl (by kernel_rfl)) rfl ⟨s.out,_,_,rfl,HF.out _ _ ⟨by first|exact .inl rfl|exact .inr rfl,rfl⟩ _⟩
 ·have b:=yW z
  have H:=WordsAt.of hv b.1;have Z:=aa z;have a2:=aa X;have C:=aa y;have HV:=aa H;have HB:=aa b;clear hr z hv X F y H b Y HP HE HT HW;go_wp2_with fail;refine HS.mono ?_;rintro e d ⟨l,n2,c2,rfl,v2,W⟩;have a7:c2=0/\n2=(r.2:Int):=by
   rcases vg W with⟨G,_⟩|⟨r2,N,e1,e2,_,_⟩
   ·rw[Z.out]at G;cases G
   ·have O:=Z.symm.trans N
    injection O with O;subst O;exact⟨e1,e2⟩
  obtain⟨rfl,rfl⟩:=a7;obtain⟨g,c1,rfl,a4,a6⟩:=(HV.below l).ex;have a9:=l.size;have a5:(d.alloc (.cells #[.int .u32 0] 40)).heap[d.heap.size]?=some (.cells #[.int .u32 0] 40 (0,0)):=dw rfl;have E:=aa (J.trans (l.mono J.size));have S:=aa ((l.block w.heap.size (by omega)).trans C.out);have U:=aa (HV.below l);obtain⟨n,hn⟩:∃n,r.1.length=n:=⟨_,rfl⟩;obtain⟨st,D⟩:∃st,r.2=st:=⟨_,rfl⟩;have k:=aa (show((d.alloc (.cells #[.int .u32 0] 40)).alloc (.cells (ig pages st (.slice (some ⟨g,0,none⟩) n c1) (.slice (some ⟨d.heap.size,0,none⟩) 1 1)) 37)).heap[d.heap.size+1]?=some (.cells (ig pages st (.slice (some ⟨g,0,none⟩) n c1) (.slice (some ⟨d.heap.size,0,none⟩) 1 1)) 37 (0,0)) from dw (by simp));have t:=aa (show((d.alloc (.cells #[.int .u32 0] 40)).alloc (.cells (ig pages st (.slice (some ⟨g,0,none⟩) n c1) (.slice (some ⟨d.heap.size,0,none⟩) 1 1)) 37)).heap[d.heap.size]?=some (.cells #[.int .u32 0] 40 (0,0)) from pZ rfl);have o:=aa (show Below d.heap.size d ((d.alloc (.cells #[.int .u32 0] 40)).alloc (.cells (ig pages st (.slice (some ⟨g,0,none⟩) n c1) (.slice (some ⟨d.heap.size,0,none⟩) 1 1)) 37)) from(az).alloc (by simp) _);have b:=HB.out;rw[hn,D]at b;have K:=aa (oQ ((d.alloc (.cells #[.int .u32 0] 40)).alloc (.cells (ig pages st (.slice (some ⟨g,0,none⟩) n c1) (.slice (some ⟨d.heap.size,0,none⟩) 1 1)) 37)) pages st n c1 1 d.heap.size (some ⟨g,0,none⟩) b.1 b.2.1 b.2.2.1 b.2.2.2.1 b.2.2.2.2 hp1 hp2 ((ae t.out 0).trans rfl));have M:=aa hn;have T:=aa D;rw[hn]at U;clear W l a4 a6 a5 HS HV C b hn;rw[M.out,D];clear D;go_wp2_with fail;generalize(d.alloc (.cells #[.int .u32 0] 40)).alloc (.cells (ig pages st (.slice (some ⟨g,0,none⟩) n c1) (.slice (some ⟨d.heap.size,0,none⟩) 1 1)) 37)=u3 at K k t o ⊢;refine K.mono ?_;rintro e u4 ⟨x,rfl⟩;have ac:=x.size;have ad:=o.size;have a0:=aa ((x.block _ (ab k.out)).trans k.out);have Q:=aa ((x.block _ (ab t.out)).trans t.out);have m:=aa (o.trans (x.mono o.size));have B:=aa ((m.block w.heap.size (by omega)).trans S.out);have P:=aa (E.trans (m.mono E.size));have a3:=aa (U.below m.out);obtain⟨⟨q0,q1,q2,q3,q4,q5,q6⟩,f0,f1,f2,f3,f4,f5,f6⟩:=iK B.out;obtain⟨⟨k0,k1,k2,k3,k4,k5,k6⟩,_⟩:=iK a0.out;clear x K k t o;cases hlo:lh n st pages with
  | false =>
   have HF:=aa (λa c' (h:(c'=2\/c'=13)/\a=z7) u'=>(show jb pages fs u' a c' by unfold jb;rw[wV,Z.out,aj,ap (by rw[M.out,T.out,hlo];simp)];exact h));have A:=aa (Ja B.out (.int .i64 0) (.int .i64 0) (.int .i64 0) (.slice none 0 0) (.string ⟨#[]⟩) (.slice none 0 0) (.slice none 0 0));have s:=aa (A.out.2.below P.out λi hi=>by omega);go_wp2_with fail;exact aN (gK (p:=4) (u:=5) rfl _ _ w.heap.size 37 _ (0,0) _ rfl A.out.1 underlying37 rfl (by kernel_rfl)) rfl ⟨s.out,_,_,rfl,HF.out _ _ ⟨by first|exact .inl rfl|exact .inr rfl,rfl⟩ _⟩
  | true =>
   have A:=aa (Ja B.out (.int .i64 pages) (.int .i64 st) (.int .i64 0) (.slice (some ⟨g,0,none⟩) n c1) (.string ⟨#[]⟩) (.slice none 0 0) (.slice (some ⟨d.heap.size,0,none⟩) 1 1));have s:=aa (A.out.2.below P.out λi hi=>by omega);have a1:=aa hlo;have L:Hid (∀v,Chg (·=w.heap.size) u4 v->jb pages fs v (ig pages st (.slice (some ⟨g,0,none⟩) n c1) (.slice (some ⟨d.heap.size,0,none⟩) 1 1)) 0):=λv hc =>
    jb.mk Z.out M.out T.out a1.out a2.out (a3.chg1 hc B.out) ((hc.block _ (ab Q.out) (by omega)).trans Q.out)
   clear hlo;go_wp2_with fail;exact aN (gK (p:=4) (u:=5) rfl _ _ w.heap.size 37 _ (0,0) _ rfl A.out.1 underlying37 rfl (by kernel_rfl)) rfl ⟨s.out,_,_,rfl,L.out _ A.out.2⟩
def so (w:World) (K:Nat) (l:Tx) (pages:Nat) (pv:Value) (out:Tx):Prop:=w.heap[K]?=some (.cells #[.string ⟨l.toArray⟩,.int .i64 pages,pv,.string ⟨out.toArray⟩] 76 (0,0))
theorem so.c (h:so w K l pages pv out):(w.cell? ⟨K,0,none⟩=some (.string ⟨l.toArray⟩)/\w.cell? ⟨K,1,none⟩=some (.int .i64 pages)/\w.cell? ⟨K,2,none⟩=some pv/\w.cell? ⟨K,3,none⟩=some (.string ⟨out.toArray⟩))/\w.frozen? ⟨K,2,none⟩=false/\w.frozen? ⟨K,3,none⟩=false:=
 ⟨⟨(ae h 0).trans rfl,(ae h 1).trans rfl,(ae h 2).trans rfl,(ae h 3).trans rfl⟩,aD w K 2 _ _ h,aD w K 3 _ _ h⟩
theorem so.below (h:so w K l pages pv out) (hb:Below w.heap.size w u):so u K l pages pv out:=(hb.block K (ab h)).trans h
structure Lay (w:World):Prop where
 tabs:Tabs w
 tab:Tab w
 mx:∃m:Int,w.cell? ⟨4,0,none⟩=some (.int .i64 m)
 et:w.cell? ⟨0,0,none⟩=some (.iface 212 (.agg #[.pointer (some ⟨13,24,none⟩)]))
theorem Lay.below (h:Lay w) (hb:Below w.heap.size w u):Lay u:=by
 obtain⟨m,a⟩:=h.mx;exact⟨h.tabs.below hb,h.tab.below hb,⟨m,(hb.cell (aH a)).trans a⟩,(hb.cell (aH h.et)).trans h.et⟩
def Ep (B:Nat) (w:World):Prop:=∀u,Below B w u->Lay u
theorem Ep.of (h:Lay w):Ep w.heap.size w:=λu hb=>h.below hb
theorem Ep.on (h:Ep B w) (hb:Below B w u):Ep B u:=λv hv=>h v (hb.trans hv)
theorem Ep.here (h:Ep B w):Lay w:=h w (ai _ _)
theorem Chg.lowB {S:Nat->Prop} (hc:Chg S w u) (hw:B<=w.heap.size) (hs:∀k,k<B->¬S k):Below B w u:=
 ⟨hc.os,hc.tape,hc.output,hc.size,λk hk=>hc.block k (bu hk hw) (hs k hk)⟩
theorem Lay.l4 (h:Lay w):4<w.heap.size:=by obtain⟨m,a⟩:=h.mx;exact aH a
theorem BA (w:World):Calls prog 22 #[] w λe w'=>e=.returned (.slice (some ⟨w.heap.size,0,none⟩) 3 3)/\w'=w.alloc (.cells #[.func (.func 71) #[] #[],.func (.func 72) #[] #[],.func (.func 74) #[] #[]] 81):=by
 go_enter func22,ntmps22
 go_wp2_with fail;go_ret;exact⟨rfl,rfl⟩
structure PgOk (w:World) (pb:Nat) (fs:List Fun):Prop where
 ex:∃pv bs,PrgAt w w.heap.size pb pv bs fs/\Env w w.heap.size bs fs
theorem PgOk.of {A:Nat->Prop} (h:pm u A pb fs) (hL:Lay u):PgOk u pb fs:=by
 obtain⟨_,v,b,hn,d,c⟩:=h;have a:dV u (Lt u.heap.size) b fs:=c.weak λk hk _=>hk;exact⟨v,b,⟨hn,d.weak λk hk _=>hk,a,ab hn⟩,a,hL.mx,hL.l4⟩
theorem PgOk.below (h:PgOk w pb fs) (hb:Below w.heap.size w u):PgOk u pb fs:=by
 obtain⟨d,a,b,c⟩:=h.ex;exact⟨d,a,b.below hb,c.below hb⟩
def St1 (w:World) (K:Nat) (l:Tx) (pages:Nat) (q:Option (List Fun)) (e:Ending) (w':World):Prop:=
 match q with
 | none=>∃f,e=.returned (.iface 52 (pB f))
 | some fs=>e=.returned .nilIface/\∃b,so w' K l pages (pB b) []/\PgOk w' b fs
theorem BE (B:Nat) (w:World) (K:Nat) (l:Tx) (pages:Nat) (hK:so w K l pages (.pointer none) []) (hL:Ep B w) (hB:B<=K) (hl:l.length<=1000000):
  Calls prog 71 #[pB K] w λe w'=>Chg (·=K) w w'/\∃q,dU l q/\St1 w K l pages q e w':=by
 obtain⟨⟨x,y,z,A⟩,s,t⟩:=hK.c;have i:=aa (oF w w (ai _ _) hL.here.tabs l hl);have C:=aa hK;have D:=aa hL;have F:=ab hK;clear hK hL
 go_enter func71,ntmps71
 go_wp2_with fail;refine i.mono ?_;rintro e u ⟨c,q,o,a⟩;have H:=c.size;have d:=aa (C.below c);have r:=aa o;clear x y z A s t;obtain⟨⟨x,y,z,A⟩,s,t⟩:=d.c;cases q with
 | none =>
  obtain⟨f,rfl,_⟩:=a;have h:=aa ((Chg.of_below (S:=(·=K)) c).setCell (p:=⟨K,2,none⟩) (λ_=>rfl) (.pointer none));clear c i o;go_wp2_with fail;go_ret;exact⟨h.out,none,r.out,f,rfl⟩
 | some fs =>
  obtain⟨b,rfl,v⟩:=a;have g:Chg (·=K) u (u.setCell ⟨K,2,none⟩ (pB b)):=(Chg.refl (·=K) u).setCell (p:=⟨K,2,none⟩) (λ_=>rfl) _;have n:=(Chg.of_below (S:=(·=K)) c).setCell (p:=⟨K,2,none⟩) (λ_=>rfl) (pB b);have h:=aa n;have E:=aa (show so (u.setCell ⟨K,2,none⟩ (pB b)) K l pages (pB b) [] from aA (j:=2) d.out (pB b));have m:=aa (PgOk.of (v.onA (g.sameOn λk hk e=>by have G:w.heap.size<=k:=hk;omega)) (D.out _ (n.lowB (by omega) λk hk e=>by omega)));clear c i o v g n;go_wp2_with fail;go_ret;exact⟨h.out,some fs,r.out,rfl,b,E.out,m.out⟩
theorem BD (w:World) (K:Nat) (l:Tx) (pages:Nat) (b:Nat) (fs:List Fun) (hK:so w K l pages (pB b) []) (hP:PgOk w b fs) (hw:∀f∈fs,FunP f):
  Calls prog 72 #[pB K] w λe w'=>Below w.heap.size w w'/\((eJ fs=none/\∃f,e=.returned (.iface 52 (pB f)))\/((∃ord,eJ fs=some ord)/\e=.returned .nilIface)):=by
 obtain⟨⟨p,q,r,s⟩,_⟩:=hK.c;obtain⟨o,n,k,m⟩:=hP.ex;have d:=aa (vG fs n w b o k (λf hf=>xw (hw f hf)) m);clear hK hP k m hw
 go_enter func72,ntmps72
 go_wp2_with fail;refine d.mono ?_;rintro e u ⟨h,a⟩;have j:=aa h;cases hck:eJ fs with
 | none =>
  rw[hck]at a;obtain⟨f,c,t,rfl,_⟩:=a;have g:=aa hck;clear h hck d;go_wp2_with fail;go_ret;exact⟨j.out,.inl ⟨g.out,f,rfl⟩⟩
 | some ord =>
  rw[hck]at a;have i:e=.returned .nilIface:=a;subst i;have g:=aa hck;clear h hck d a;go_wp2_with fail;go_ret;exact⟨j.out,.inr ⟨⟨ord,g.out⟩,rfl⟩⟩
theorem DU {w0:World} (h:Below w0.heap.size w0 w) (o:Obj):Below w0.heap.size w0 (w.alloc o):=h.alloc h.size o
theorem zV (w:World) (K:Nat) (l:Tx) (pages:Nat) (hp1:16<=pages) (hp2:pages<=1024) (b:Nat) (fs:List Fun) (hK:so w K l pages (pB b) []) (hP:PgOk w b fs) (hw:∀f∈fs,FunP f) (ht:Tab w) (hok:j9 pages fs=none):
  Calls prog 74 #[pB K] w λe w'=>Chg (·=K) w w'/\∃f,e=.returned (.iface 52 (pB f)):=by
 obtain⟨⟨I,J,L,M⟩,_⟩:=hK.c;have v:=ab hK;have o:∀y,Below w.heap.size w y->Calls prog 75 #[pB b,.int .i64 pages] y λe q=>∃c,e=.returned (.tuple #[.agg z7,.int .i64 c])/\((c==(0:Int))=false/\(c != (0:Int))=true)/\(q.cell? ⟨K,2,none⟩=some (pB b)/\q.cell? ⟨K,1,none⟩=some (.int .i64 pages))/\Below y.heap.size y q:=λy hy=>by
  obtain⟨A,s,t,u⟩:=(hP.below hy).ex;refine(ve pages hp1 hp2 fs s y b A t hw u (ht.below hy)).mono ?_;rintro e q ⟨g,a,c,rfl,d⟩;unfold jb at d;rw[hok]at d;obtain⟨k,rfl⟩:=d;obtain⟨⟨_,p,r,_⟩,_⟩:=((hK.below hy).below g).c;exact⟨c,rfl,by rcases k with rfl|rfl<;>exact⟨rfl,rfl⟩,⟨r,p⟩,g⟩
 have j:Below w.heap.size w w.drew:=(ai _ _).drew;have h:Below w.heap.size w ((w.alloc (.cells z7 37)).drew):=((ai _ _).alloc (ag _) _).drew;have m:=aa ((o _ h).mono (R':=λe q=>∃c,e=.returned (.tuple #[.agg z7,.int .i64 c])/\((c==(0:Int))=false/\(c != (0:Int))=true)/\((q.cell? ⟨w.heap.size,0,none⟩=some (.int .i64 0)/\q.cell? ⟨w.heap.size,1,none⟩=some (.int .i64 0)/\q.cell? ⟨w.heap.size,2,none⟩=some (.int .i64 0)/\q.cell? ⟨w.heap.size,3,none⟩=some (.slice none 0 0)/\q.cell? ⟨w.heap.size,4,none⟩=some (.string ⟨#[]⟩)/\q.cell? ⟨w.heap.size,5,none⟩=some (.slice none 0 0)/\q.cell? ⟨w.heap.size,6,none⟩=some (.slice none 0 0))/\(q.frozen? ⟨w.heap.size,0,none⟩=false/\q.frozen? ⟨w.heap.size,1,none⟩=false/\q.frozen? ⟨w.heap.size,2,none⟩=false/\q.frozen? ⟨w.heap.size,3,none⟩=false/\q.frozen? ⟨w.heap.size,4,none⟩=false/\q.frozen? ⟨w.heap.size,5,none⟩=false/\q.frozen? ⟨w.heap.size,6,none⟩=false))/\Hid (Below w.heap.size w (((((((q.setCell ⟨w.heap.size,0,none⟩ (.int .i64 0)).setCell ⟨w.heap.size,1,none⟩ (.int .i64 0)).setCell ⟨w.heap.size,2,none⟩ (.int .i64 0)).setCell ⟨w.heap.size,3,none⟩ (.slice none 0 0)).setCell ⟨w.heap.size,4,none⟩ (.string ⟨#[]⟩)).setCell ⟨w.heap.size,5,none⟩ (.slice none 0 0)).setCell ⟨w.heap.size,6,none⟩ (.slice none 0 0)))) λe q ⟨c,he,k,hk,g⟩=>by
  have hn:q.heap[w.heap.size]?=some (.cells z7 37 (0,0)):=(g.block _ (by simp)).trans (dw (w:=w) rfl);obtain⟨N,z⟩:=Ja hn (.int .i64 0) (.int .i64 0) (.int .i64 0) (.slice none 0 0) (.string ⟨#[]⟩) (.slice none 0 0) (.slice none 0 0);exact⟨c,he,k,iK hn,z.below (h.trans (g.mono h.size)) λi hi=>by omega⟩)
 have n:=aa ((o _ j).mono (R':=λe q=>∃c,e=.returned (.tuple #[.agg z7,.int .i64 c])/\((c==(0:Int))=false/\(c != (0:Int))=true)/\Hid (Below w.heap.size w (q.alloc (.cells z7 37)))) λe q ⟨c,he,k,hk,g⟩=>⟨c,he,k,DU (j.trans (g.mono j.size)) _⟩);clear hK hP hw ht o j h hok
 go_enter func74,ntmps74
 go_upto_region 1 with fail
 go_cut [3,4] (λs3 s4 wx=>∃(S:Nat) (c:Int),s3=pB S/\s4=.int .i64 c/\((c==(0:Int))=false/\(c != (0:Int))=true)/\Hid (Below w.heap.size w wx))
 case first =>
  go_region_with (first
   | (go_at_call 75;with_reducible (show Calls prog 75 _ (World.drew (World.alloc _ _)) _);refine m.out.mono ?_;rintro e q ⟨c,rfl,k,⟨⟨O,p,r,P,Q,R,T⟩,B,C,D,E,F,G,H⟩,g⟩)
   | (go_at_call 75;refine n.out.mono ?_;rintro e q ⟨c,rfl,k,g⟩))
  all_goals
   clear m n;go_wp2_with fail
   go_meet
   exact⟨_,_,rfl,rfl,k,g⟩
 case rest =>
  obtain⟨S,c,rfl,rfl,⟨k,x⟩,g⟩:=hcut;go_wp2_with fail;go_ret;exact⟨Chg.of_below (DU g.out _),_,rfl⟩
def Lp:Prop:=∀(w:World) (K:Nat) (l:Tx) (pages:Nat),16<=pages->pages<=1024->∀(b:Nat) (fs:List Fun),so w K l pages (pB b) []->PgOk w b fs->(∀f∈fs,FunP f)->Tab w ->
 Calls prog 74 #[pB K] w λe w'=>Chg (·=K) w w'/\((j9 pages fs=none/\∃f,e=.returned (.iface 52 (pB f)))\/(∃r,j9 pages fs=some r/\e=.returned .nilIface/\so w' K l pages (pB b) (mv pages r.2 r.1)))
def jD (pages:Nat) (q:Option (List Fun)) (e:Ending):Prop:=
 match q.bind (j9 pages)with
 | none=>∃f,e=.returned (.tuple #[.string ⟨#[]⟩,.iface 52 (pB f)])
 | some r=>e=.returned (.tuple #[.string ⟨(mv pages r.2 r.1).toArray⟩,.nilIface])
theorem JG (y:World) (hL:Lay (y.alloc (.cells #[.pointer none] 52))) (f:Nat):
  Calls prog 23 #[.iface 52 (pB f),.iface 83 (pB y.heap.size)] (y.alloc (.cells #[.pointer none] 52)) λe z=>e=.returned (.bool true)/\z.cell? ⟨y.heap.size,0,none⟩=some (pB f)/\Below y.heap.size y z:=by
 refine(Lk ⟨f,0,none⟩ ⟨y.heap.size,0,none⟩ (.pointer none) _ hL.et (by rw[World.cell?_alloc_at _ _ _ _ (by simp)];rfl) (aD _ _ 0 _ _ (dw rfl))).mono ?_;rintro e z ⟨rfl,rfl⟩;have a:∀(u:World) (o:Obj),(u.alloc o).heap.size=u.heap.size+1:=λu o=>ah u o;refine⟨rfl,?_,?_⟩
 ·have d:((((((y.alloc (.cells #[.pointer none] 52)).alloc (.cells #[.pointer (some ⟨y.heap.size,0,none⟩)] 83)).alloc (.cells #[.pointer (some ⟨13,83,none⟩),.pointer (some ⟨(y.alloc (.cells #[.pointer none] 52)).heap.size,0,none⟩),.int .u64 150] 154)).alloc (.cells #[.pointer (some ⟨13,83,none⟩),.pointer (some ⟨(y.alloc (.cells #[.pointer none] 52)).heap.size,0,none⟩),.int .u64 150] 154)).alloc (.cells #[pB f] 52))).heap[y.heap.size]?=some (.cells #[.pointer none] 52 (0,0)):=by
   have c:=dw (w:=y) (o:=.cells #[.pointer none] 52) rfl;have b:∀(u:World) (o:Obj),y.heap.size<u.heap.size->(u.alloc o).heap[y.heap.size]?=u.heap[y.heap.size]?:=λu o h=>((ai u.heap.size u).alloc (ag _) o).block _ h;rw[b _ _ (by simp[a];omega),b _ _ (by simp[a];omega),b _ _ (by simp[a];omega),b _ _ (by simp[a])];exact c
  have:=aA (j:=0) d (pB f);exact(ae this 0).trans rfl
 ·refine Below.setCell (Below.alloc (Below.alloc (Below.alloc (Below.alloc (Below.alloc (ai _ _) (ag _) _) (by simp[a]) _) (by simp[a];omega) _) (by simp[a];omega) _) (by simp[a];omega) _) (ag _) _
theorem pj (h:j9 pages fs=none) (f:Nat):jD pages (some fs) (.returned (.tuple #[.string ⟨#[]⟩,.iface 52 (pB f)])):=by
 unfold jD;rw[aj,h];exact⟨f,rfl⟩
theorem vF (h:j9 pages fs=some r):jD pages (some fs) (.returned (.tuple #[.string ⟨(mv pages r.2 r.1).toArray⟩,.nilIface])):=by
 unfold jD;rw[aj,h]
theorem dU.funs (h:dU l (some fs)):∀f∈fs,FunP f:=h.fun.1
theorem Jy (H3:Lp) (w:World) (l:Tx) (pages:Nat) (hp1:16<=pages) (hp2:pages<=1024) (hL:Lay w) (hl:l.length<=1000000):
  Calls prog 8 #[.string ⟨l.toArray⟩,.int .i64 pages] w λe w'=>Below w.heap.size w w'/\∃q,dU l q/\jD pages q e:=by
 obtain⟨K,o⟩:∃K,w.heap.size=K:=⟨_,rfl⟩;have a2:so (w.alloc (.cells #[.string ⟨l.toArray⟩,.int .i64 pages,.pointer none,.string ⟨#[]⟩] 76)) K l pages (.pointer none) []:=by rw[<- o];exact dw rfl
 have a3:Below K w (w.alloc (.cells #[.string ⟨l.toArray⟩,.int .i64 pages,.pointer none,.string ⟨#[]⟩] 76)):=by rw[<- o];exact az
 have J:Ep K w:=by rw[<- o];exact Ep.of hL
 have S:(w.alloc (.cells #[.string ⟨l.toArray⟩,.int .i64 pages,.pointer none,.string ⟨#[]⟩] 76)).heap.size=K+1:=by rw[ah,o]
 have R:=aa a2;have O:=aa a3;have s:=aa J;have g:=BA (w.alloc (.cells #[.string ⟨l.toArray⟩,.int .i64 pages,.pointer none,.string ⟨#[]⟩] 76));rw[S]at g;have HS:=aa g;have v:=aa S;have ai:=aa o;rw[o];clear a2 a3 J hL g S
 go_enter func8,ntmps8
 go_wp2_with fail;clear o;generalize af:w.alloc (.cells #[.string ⟨l.toArray⟩,.int .i64 pages,.pointer none,.string ⟨#[]⟩] 76)=w1 at R O HS v ⊢;clear af;refine HS.mono ?_;rintro e u ⟨rfl,hu⟩;have C:u.heap[K+1]?=some (.cells #[.func (.func 71) #[] #[],.func (.func 72) #[] #[],.func (.func 74) #[] #[]] 81 (0,0)):=by rw[hu,<- v.out];exact dw rfl
 have a9:u.heap.size=K+2:=by rw[hu,ah,v.out]
 have a4:Below K w u:=by rw[hu];exact O.alloc (by rw[v.out];omega) _
 have L:so u K l pages (.pointer none) []:=by rw[hu];exact R.below (az)
 clear hu HS v O R;have ab:u.cell? ⟨K+1,0,none⟩=some (.func (.func 71) #[] #[]):=(ae C 0).trans rfl;have Z:=aa C;have E:=aa a9;have X:=aa a4;have a0:=aa L;clear C a9 a4 L;go_wp2_with fail;refine bC 4 ?_;rw[aO];go_wp2_with fail;refine(BE K _ K l pages (a0.below (az)) (s.on (X.alloc (by rw[E.out];omega) _)) (ag _) hl).mono ?_;rintro e U ⟨j,q,hq,g⟩;have D:(u.alloc (.cells #[.func (.func 71) #[] #[]] 81)).heap.size=K+3:=by rw[ah,E.out]
 have c:=aa ((X.alloc (by rw[E.out];omega) _).trans (j.lowB (B:=K) (by rw[D];omega) λk hk e=>by have e:k=K:=e;omega));have a:=aa (show K<=U.heap.size from ay (by rw[D];omega) j.size);have n:=aa ((j.block (K+1) (by rw[D];omega) (λe=>by have e:K+1=K:=e;omega)).trans (((az:Below u.heap.size u (u.alloc (.cells #[.func (.func 71) #[] #[]] 81))).block _ (by rw[E.out];omega)).trans Z.out));have x:=aa (show K+3<=U.heap.size from ay (by rw[D];omega) j.size);have V:=aa hq;clear j D hq ab;cases q with
 | none =>
  obtain⟨f,rfl⟩:=g;go_wp2_with fail;refine(JG _ (s.out _ (c.alloc a.out _)) _).mono ?_;rintro e z ⟨rfl,hz,m⟩;have d:=aa (c.trans (m.mono a.out));clear m;go_wp2_with fail
  go_quiet (fail)
  all_goals go_wp2_with fail
  all_goals go_ret2
  all_goals exact⟨by first|exact d.out|exact d.drew|exact below_drewN d.out _,_,V.out,f,rfl⟩
 | some fs =>
  obtain⟨rfl,b,M,a8⟩:=g;have y:=aa M;have P:=aa a8;have ac:U.cell? ⟨K+1,1,none⟩=some (.func (.func 72) #[] #[]):=(ae n.out 1).trans rfl;clear M a8;go_wp2_with fail;rw[aO];go_wp2_with fail;refine(BD _ K l pages b fs (y.below (az)) (P.below (az)) (dU.funs V.out)).mono ?_;rintro e W ⟨a5,g⟩;have p:(U.alloc (.cells #[.func (.func 72) #[] #[]] 81)).heap.size=U.heap.size+1:=ah _ _;have i:Below U.heap.size U W:=(az).trans (a5.mono (by rw[p];omega));have a1:=aa (y.below i);have Y:=aa (P.below i);have Q:=aa ((i.block (K+1) (bu (by omega) x.out)).trans n.out);have F:=aa (c.trans (i.mono a.out));have H:=aa (show K+3<=W.heap.size from ay x.out i.size);clear a5 p i ac y P n c a x;have a:=aa (show K<=W.heap.size from ay (by omega) H.out);have c:=F;clear F;rcases g with⟨A,f,rfl⟩|⟨⟨aj,a7⟩,rfl⟩
  ·have t:=aa (show j9 pages fs=none by unfold j9;rw[A];rfl)
   clear A;go_wp2_with fail;refine(JG _ (s.out _ (c.alloc a.out _)) _).mono ?_;rintro e z ⟨rfl,hz,m⟩;have d:=aa (c.trans (m.mono a.out));clear m;go_wp2_with fail
   go_quiet (fail)
   all_goals go_wp2_with fail
   all_goals go_ret2
   all_goals exact⟨by first|exact d.out|exact d.drew|exact below_drewN d.out _,_,V.out,pj t.out f⟩
  ·have ad:W.cell? ⟨K+1,2,none⟩=some (.func (.func 74) #[] #[]):=(ae Q.out 2).trans rfl
   clear a7;go_wp2_with fail;rw[aO];go_wp2_with fail;refine(H3 _ K l pages hp1 hp2 b fs (a1.below (az)) (Y.below (az)) (dU.funs V.out) (s.out _ (c.alloc a.out _)).tab).mono ?_;rintro e u4 ⟨j,g⟩;have p:(W.alloc (.cells #[.func (.func 74) #[] #[]] 81)).heap.size=W.heap.size+1:=ah _ _;have G:=aa ((c.alloc a.out (.cells #[.func (.func 74) #[] #[]] 81)).trans (j.lowB (B:=K) (by rw[p];have:=a.out;omega) λk hk e=>by have e:k=K:=e;omega));have I:=aa (show K<=u4.heap.size from ay (by rw[p];have:=a.out;omega) j.size);clear j p c a H ad;have c:=G;have a:=I;clear G I;rcases g with⟨A,f,rfl⟩|⟨r,a6,rfl,N⟩
   ·have t:=aa A
    clear A;go_wp2_with fail;refine(JG _ (s.out _ (c.alloc a.out _)) _).mono ?_;rintro e z ⟨rfl,hz,m⟩;have d:=aa (c.trans (m.mono a.out));clear m;go_wp2_with fail
    go_quiet (fail)
    all_goals go_wp2_with fail
    all_goals go_ret2
    all_goals exact⟨by first|exact d.out|exact d.drew|exact below_drewN d.out _,_,V.out,pj t.out f⟩
   ·have t:=aa a6
    obtain⟨⟨_,_,_,k3⟩,_⟩:=N.c;obtain⟨T,hT⟩:∃T,mv pages r.2 r.1=T:=⟨_,rfl⟩;rw[hT]at k3;have HT:=aa hT;clear a6 N hT;go_wp2_with fail;rw[aO];go_wp2_with fail;go_ret2;refine⟨c.out,_,V.out,?_⟩;have h:=vF t.out;rw[HT.out]at h;exact h
structure ImgQ (w:World) (K:Nat) (l:Tx) (pages b:Nat) (ws:List Int) (q:World) (g c1 G:Nat):Prop where
 bel:Below w.heap.size w q
 wk:so q K l pages (pB b) []
 words:WordsAt q (.slice (some ⟨g,0,none⟩) ws.length c1) ws
 g0:px q G 0 [0]
 gt:∃cs fr,q.heap[G]?=some (.cells cs 40 fr)
theorem ImgQ.on (h:ImgQ w K l pages b ws q g c1 G) (hb:Below w.heap.size w z) (hc:Chg (·=S) q z) (hS:∀cs T fr,q.heap[S]?=some (.cells cs T fr)->T=37):ImgQ w K l pages b ws z g c1 G:=by
 obtain⟨d,k,e,hn,cs,fr,f⟩:=h.words.ex;obtain⟨cs2,c,a⟩:=h.gt;have m:¬K=S:=λe=>by have:=hS _ _ _ (e▸h.wk);exact absurd this (by decide)
 have i:¬d=S:=λe=>by have:=hS _ _ _ (e▸f);exact absurd this (by decide)
 have j:¬G=S:=λe=>by have:=hS _ _ _ (e▸a);exact absurd this (by decide)
 exact⟨hb,(hc.block K (ab h.wk) m).trans h.wk,⟨d,k,e,hn.chg hc i,cs,fr,(hc.block d (ab f) i).trans f⟩,h.g0.chg hc j,cs2,c,(hc.block G (ab a) j).trans a⟩
theorem ImgQ.enc (h:ImgQ w K l pages b r.1 q g c1 G) (hp1:16<=pages) (hp2:pages<=1024) (hbd:1<=r.1.length/\r.1.length<=4096/\r.2%256=0/\256<=r.2/\r.2<=4096) (hr:∀x∈r.1,0<=x/\x<4294967296) (hlo:lh r.1.length r.2 pages=true) (hn:r.1.length=n) (hst:r.2=st):
  Calls prog 76 #[.agg (ig pages st (.slice (some ⟨g,0,none⟩) n c1) (.slice (some ⟨G,0,none⟩) 1 c2))] q λe q'=>e=.returned (.tuple #[.string ⟨(mv pages r.2 r.1).toArray⟩,.int .i64 0])/\Below q.heap.size q q'/\so q' K l pages (pB b) []:=by
 subst hn hst;obtain⟨d,c,e,hn,a⟩:=h.words.ex;injection e with e1 e2 e3;injection e1 with e1;injection e1 with e1;subst e1 e3;exact(xM q pages r.2 g c1 c2 G r.1 hbd.1 hbd.2.1 hbd.2.2.1 hbd.2.2.2.1 hbd.2.2.2.2 hp1 hp2 hn hr a h.g0 h.gt hlo).mono λe q' ⟨hb,he⟩=>⟨he,hb,h.wk.below hb⟩
theorem Bl {T T':Nat} {b:Array Value} {fr':Nat×Nat} (h1:q.heap[S]?=some (.cells a T fr)) (h2:q.heap[S]?=some (.cells b T' fr')):T'=T:=by
 rw[h1]at h2;injection h2 with h2;injection h2 with _ h _;exact h.symm
theorem ImgQ.lay (h:ImgQ w K l pages b ws q g c1 G) (hn0:q.heap[S]?=some (.cells a 37 (0,0))) (hS:w.heap.size<=S) (hc:Chg (·=S) q z):ImgQ w K l pages b ws z g c1 G:=
 h.on (hc.below h.bel λi c=>by have c:i=S:=c;omega) hc λcs T fr hh=>Bl hn0 hh
def rh (w:World) (K:Nat) (l:Tx) (pages b st n:Nat) (T:Tx) (S:Nat) (z:World):Prop:=∃g c1 G c2:Nat,z.heap[S]?=some (.cells (ig pages st (.slice (some ⟨g,0,none⟩) n c1) (.slice (some ⟨G,0,none⟩) 1 c2)) 37 (0,0))/\Below w.heap.size w z/\Calls prog 76 #[.agg (ig pages st (.slice (some ⟨g,0,none⟩) n c1) (.slice (some ⟨G,0,none⟩) 1 c2))] z λe q'=>e=.returned (.tuple #[.string ⟨T.toArray⟩,.int .i64 0])/\Below z.heap.size z q'/\so q' K l pages (pB b) []
theorem rh.of (h:ImgQ w K l pages b r.1 z g c1 G) (hrow:z.heap[S]?=some (.cells (ig pages st (.slice (some ⟨g,0,none⟩) n c1) (.slice (some ⟨G,0,none⟩) 1 c2)) 37 (0,0))) (hp1:16<=pages) (hp2:pages<=1024) (hbd:1<=r.1.length/\r.1.length<=4096/\r.2%256=0/\256<=r.2/\r.2<=4096) (hr:∀x∈r.1,0<=x/\x<4294967296) (hlo:lh r.1.length r.2 pages=true) (hn:r.1.length=n) (hst:r.2=st):rh w K l pages b st n (mv pages r.2 r.1) S z:=
 ⟨g,c1,G,c2,hrow,h.bel,h.enc hp1 hp2 hbd hr hlo hn hst⟩
theorem zU (w:World) (K:Nat) (l:Tx) (pages:Nat) (hp1:16<=pages) (hp2:pages<=1024) (b:Nat) (fs:List Fun) (hK:so w K l pages (pB b) []) (hP:PgOk w b fs) (hw:∀f∈fs,FunP f) (ht:Tab w) (r:List Int×Nat) (hok:j9 pages fs=some r):
  Calls prog 74 #[pB K] w λe w'=>Chg (·=K) w w'/\e=.returned .nilIface/\so w' K l pages (pB b) (mv pages r.2 r.1):=by
 obtain⟨⟨k0,Y,Z,k3⟩,_⟩:=hK.c;have a2:=ab hK;obtain⟨n,hn⟩:∃n,r.1.length=n:=⟨_,rfl⟩;obtain⟨st,s⟩:∃st,r.2=st:=⟨_,rfl⟩;have V:∀y,Below w.heap.size w y->Calls prog 75 #[pB b,.int .i64 pages] y λe q=>∃g c1 G c2,e=.returned (.tuple #[.agg (ig pages st (.slice (some ⟨g,0,none⟩) n c1) (.slice (some ⟨G,0,none⟩) 1 c2)),.int .i64 0])/\(q.cell? ⟨K,2,none⟩=some (pB b)/\q.cell? ⟨K,1,none⟩=some (.int .i64 pages))/\Below y.heap.size y q/\ImgQ w K l pages b r.1 q g c1 G/\(1<=r.1.length/\r.1.length<=4096/\r.2%256=0/\256<=r.2/\r.2<=4096)/\(∀x∈r.1,0<=x/\x<4294967296)/\lh r.1.length r.2 pages=true:=λy hy=>by
  obtain⟨pv,bs,h1,h2⟩:=(hP.below hy).ex;refine(ve pages hp1 hp2 fs bs y b pv h1 hw h2 (ht.below hy)).mono ?_;rintro e q ⟨o,a,c,rfl,d⟩;unfold jb at d;rw[hok]at d;obtain⟨rfl,H,I,m,v,G,c2,rfl,hv,hG,Q,R,U⟩:=d;have X:=hv;obtain⟨g,c1,rfl,a3,a0,a1,a4⟩:=hv.ex;have J:=(hK.below hy).below o;obtain⟨⟨_,L,M,_⟩,_⟩:=J.c;exact⟨g,c1,G,c2,by rw[hn,s],⟨M,L⟩,o,⟨hy.trans (o.mono hy.size),J,X,hG,Q,R,U⟩,H,I,m⟩
 have F:Below w.heap.size w w.drew:=(ai _ _).drew;have E:Below w.heap.size w ((w.alloc (.cells z7 37)).drew):=((ai _ _).alloc (ag _) _).drew;have C:=aa ((V _ E).mono (R':=λe q=>∃g c1 G c2,e=.returned (.tuple #[.agg (ig pages st (.slice (some ⟨g,0,none⟩) n c1) (.slice (some ⟨G,0,none⟩) 1 c2)),.int .i64 0])/\(q.cell? ⟨K,2,none⟩=some (pB b)/\q.cell? ⟨K,1,none⟩=some (.int .i64 pages))/\((q.cell? ⟨w.heap.size,0,none⟩=some (.int .i64 0)/\q.cell? ⟨w.heap.size,1,none⟩=some (.int .i64 0)/\q.cell? ⟨w.heap.size,2,none⟩=some (.int .i64 0)/\q.cell? ⟨w.heap.size,3,none⟩=some (.slice none 0 0)/\q.cell? ⟨w.heap.size,4,none⟩=some (.string ⟨#[]⟩)/\q.cell? ⟨w.heap.size,5,none⟩=some (.slice none 0 0)/\q.cell? ⟨w.heap.size,6,none⟩=some (.slice none 0 0)) /\
  (q.frozen? ⟨w.heap.size,0,none⟩=false/\q.frozen? ⟨w.heap.size,1,none⟩=false/\q.frozen? ⟨w.heap.size,2,none⟩=false/\q.frozen? ⟨w.heap.size,3,none⟩=false/\q.frozen? ⟨w.heap.size,4,none⟩=false/\q.frozen? ⟨w.heap.size,5,none⟩=false/\q.frozen? ⟨w.heap.size,6,none⟩=false))/\Hid (rh w K l pages b st n (mv pages r.2 r.1) w.heap.size (((((((q.setCell ⟨w.heap.size,0,none⟩ (.int .i64 pages)).setCell ⟨w.heap.size,1,none⟩ (.int .i64 st)).setCell ⟨w.heap.size,2,none⟩ (.int .i64 0)).setCell ⟨w.heap.size,3,none⟩ (.slice (some ⟨g,0,none⟩) n c1)).setCell ⟨w.heap.size,4,none⟩ (.string ⟨#[]⟩)).setCell ⟨w.heap.size,5,none⟩ (.slice none 0 0)).setCell ⟨w.heap.size,6,none⟩ (.slice (some ⟨G,0,none⟩) 1 c2)))) λe q ⟨g,c1,G,c2,he,hk,o,hq,i,I,m⟩=>by
  have A:q.heap[w.heap.size]?=some (.cells z7 37 (0,0)):=(o.block _ (by simp)).trans (dw (w:=w) rfl);obtain⟨l1,l2⟩:=Ja A (.int .i64 pages) (.int .i64 st) (.int .i64 0) (.slice (some ⟨g,0,none⟩) n c1) (.string ⟨#[]⟩) (.slice none 0 0) (.slice (some ⟨G,0,none⟩) 1 c2);exact⟨g,c1,G,c2,he,hk,iK A,rh.of (hq.lay A (ag _) l2) l1 hp1 hp2 i I m hn s⟩)
 have D:=aa ((V _ F).mono (R':=λe q=>∃g c1 G c2,e=.returned (.tuple #[.agg (ig pages st (.slice (some ⟨g,0,none⟩) n c1) (.slice (some ⟨G,0,none⟩) 1 c2)),.int .i64 0])/\(q.cell? ⟨K,2,none⟩=some (pB b)/\q.cell? ⟨K,1,none⟩=some (.int .i64 pages))/\Hid (rh w K l pages b st n (mv pages r.2 r.1) q.heap.size (q.alloc (.cells (ig pages st (.slice (some ⟨g,0,none⟩) n c1) (.slice (some ⟨G,0,none⟩) 1 c2)) 37)))) λe q ⟨g,c1,G,c2,he,hk,o,hq,i,I,m⟩=>by
  exact⟨g,c1,G,c2,he,hk,rh.of (hq.on (S:=q.heap.size) (DU hq.bel (.cells (ig pages st (.slice (some ⟨g,0,none⟩) n c1) (.slice (some ⟨G,0,none⟩) 1 c2)) 37)) ((Chg.refl _ _).alloc _) λcs T fr h=>by simp at h) (dw rfl) hp1 hp2 i I m hn s⟩)
 clear hK hP hw ht V F E hok hn s
 go_enter func74,ntmps74
 go_upto_region 1 with fail
 go_cut [3,4] (λs3 s4 wx=>∃S:Nat,s3=pB S/\s4=.int .i64 0/\Hid (rh w K l pages b st n (mv pages r.2 r.1) S wx))
 case first =>
  go_region_with (first
    | (go_at_call 75;with_reducible (show Calls prog 75 _ (World.drew (World.alloc _ _)) _);refine C.out.mono ?_;rintro e q ⟨g,c1,G,c2,rfl,⟨Z,Y⟩,⟨⟨q0,L,M,q3,q4,q5,q6⟩,f0,f1,f2,f3,f4,f5,f6⟩,o⟩)
    | (go_at_call 75;refine D.out.mono ?_;rintro e q ⟨g,c1,G,c2,rfl,⟨Z,Y⟩,o⟩))
  all_goals
   clear C D;go_wp2_with fail
   go_meet
   exact⟨_,rfl,rfl,o⟩
 case rest =>
  obtain⟨S,rfl,rfl,hx⟩:=hcut;obtain⟨g,c1,G,c2,u,t,k⟩:=hx.out;obtain⟨⟨q0,L,M,q3,q4,q5,q6⟩,_⟩:=iK u;have N:=aa k;have HB:=aa t;obtain⟨T,W⟩:∃T,mv pages r.2 r.1=T:=⟨_,rfl⟩;rw[W]at N;have HT:=aa W;clear hx u t k W;go_wp2_with fail;refine N.out.mono ?_;rintro e u2 ⟨rfl,i,z⟩;have P:=aa z;obtain⟨⟨k0,Y,Z,k3⟩,f2,f3⟩:=z.c;have B:=aa (show so (u2.setCell ⟨K,3,none⟩ (.string ⟨T.toArray⟩)) K l pages (pB b) T from aA (j:=3) P.out (.string ⟨T.toArray⟩));have O:=aa (((Chg.of_below (S:=(·=K)) HB.out).on i).setCell (p:=⟨K,3,none⟩) (λ_=>rfl) (.string ⟨T.toArray⟩));clear i z N q0 L M q3 q4 q5 q6;go_wp2_with fail;go_ret;exact⟨O.out,rfl,by rw[HT.out];exact B.out⟩
theorem BC:Lp:=λw K l pages hp1 hp2 b fs hK hP hw ht=>by
 cases hok:j9 pages fs with
 | none=>exact(zV w K l pages hp1 hp2 b fs hK hP hw ht hok).mono λe w' ⟨h1,h2⟩=>⟨h1,.inl ⟨rfl,h2⟩⟩
 | some r=>exact(zU w K l pages hp1 hp2 b fs hK hP hw ht r hok).mono λe w' ⟨h1,h2,h3⟩=>⟨h1,.inr ⟨r,rfl,h2,h3⟩⟩
theorem pU (w:World) (l:Tx) (pages:Nat) (hp1:16<=pages) (hp2:pages<=1024) (hL:Lay w) (hl:l.length<=1000000):
  Calls prog 8 #[.string ⟨l.toArray⟩,.int .i64 pages] w λe w'=>Below w.heap.size w w'/\∃q,dU l q/\jD pages q e:=
 Jy BC w l pages hp1 hp2 hL hl
end Go.Proofs.YtbeaaimcpkogcaaGreatDoor
