/- Lemmas on the way to the claim. -/
import Derived.WideKeyEntry
import Derived.Maps.RangeWalk
import Derived.Test.YtbeaaimcpkogcaaGreatDoorM16
set_option linter.unusedSimpArgs false
set_option linter.unusedVariables false
set_option maxHeartbeats 2000000
set_option maxRecDepth 100000
namespace Go.Proofs.YtbeaaimcpkogcaaGreatDoor
open Go.Proofs.Tryz Go.RowKit
variable {a w w':World} {b f k lo md mf mt mu n sz:Nat} {D:DataW Value} {nm s:Tx} {L U0:Tx->Option Value} {S:Nat->Prop} {key v z:Value} {fs:List Fun} {bs:List Nat} {ur:Option Nat} {c c':CS} {left:Lit->Bool} {x:Ex} {ln:Int}
section
open Go.Maps Go.WideMaps
abbrev RV (v:Value):Option (DataW Value×List MemPlace):=some (.held v,[])
theorem uF (h:w.ownsMap prog 9 RV b n D):w.ownsMap prog 9 RV b (size D) D:=by
 obtain⟨c,a,d,F,e,rfl⟩:=h;exact⟨c,a,d,F,by rw[size_eq,length_sorted];simp,rfl⟩
def bz (w:World) (b:Nat) (L:Tx->Option Value) (sz:Nat):Prop:=
 ∃D:DataW Value,w.ownsMap prog 9 RV b sz D/\Tidy D/\size D=sz/\∀t:Tx,(∀z,D.atKey (.string t) (.held z)=.held ((L t).getD z))/\has D (.string t)=(L t).isSome
theorem LB (h:s.length<=4294967296):keyOf prog 9 (.string ⟨s.toArray⟩)=some (.string s):=by
 have e:=keyOf_string_mk (P:=prog) (k:=9) (s:=⟨s.toArray⟩) underlying9 (by show s.toArray.size<=maxLen;simp;unfold maxLen;omega);rw[e]
theorem bz.made (w:World):bz (w.alloc (.map #[] 0)) w.heap.size (λ_=>none) 0:=
 ⟨.map [],World.ownsMap_made w _ _ _,tidy_empty,rfl,λt=>⟨λz=>rfl,rfl⟩⟩
theorem bz.lt (h:bz w b L sz):b<w.heap.size:=by obtain⟨D,h,_⟩:=h;exact h.lt
theorem bz.chg (h:bz w b L sz) (hc:Chg S w w') (hn:¬S b):bz w' b L sz:=by
 obtain⟨D,⟨d,a,c,F,f,e⟩,r⟩:=h;exact⟨D,⟨d,a,by rw[hc.block _ (ab c) hn];exact c,F,f,e⟩,r⟩
theorem bz.below (h:bz w b L sz) (hb:Below w.heap.size w w'):bz w' b L sz:=
 h.chg (Chg.of_below (S:=λ_=>False) hb) id
theorem bz.look2 (h:bz w b L sz) {t e:TypeId} (ht:Tryz.prog.underlying t=some (.map 9 e)) (hz:(zeroValue e).run prog w=.ok z w) (hs:s.length<=4294967296) (c:Bool):
  (Instr.lookup t (.map (some b)) (.string ⟨s.toArray⟩) c).run prog w=.ok (if c then .tuple #[(L s).getD z,.bool (L s).isSome]else(L s).getD z) w:=by
 obtain⟨D,⟨x,f,q,F,_,rfl⟩,_,_,p⟩:=h;obtain⟨n,k⟩:=p s;rcases fit_look c pO ht hz q F (LB hs)with⟨a,_,d⟩|⟨g,y,_,_,a,i,d,_⟩
 ·have hn:(L s).isSome=false:=by rw[<- k];exact has_false_of_atKey d
  have j:L s=none:=by cases hq:L s with
   | none=>rfl
   | some v=>rw[hq]at hn;cases hn
  rw[a,j];cases c<;>rfl
 ·have u:y.1=.held g.val:=by have:(DataW.held g.val,([]:List MemPlace))=y:=aT i;rw[<- this]
  have r:(L s).isSome=true:=by rw[<- k];exact has_true_of_atKey (y:=y.1) d
  obtain⟨v,m⟩:=iZ.1 r;have l:=n z;rw[d,u,m]at l;have o:g.val=v:=by injection l
  rw[a,m,o];cases c<;>rfl
def upd (L:Tx->Option Value) (s:Tx) (v:Value):Tx->Option Value:=λt=>if t=s then some v else L t
theorem bz.put (h:bz w b L sz) {t e:TypeId} (ht:Tryz.prog.underlying t=some (.map 9 e)) (hn:sz<maxLen) (hs:s.length<=4294967296) (v:Value):
  ∃w',(Instr.mapUpdate t (.map (some b)) (.string ⟨s.toArray⟩) v).run prog w=.ok () w'/\bz w' b (upd L s v) (if(L s).isSome then sz else sz+1)/\w.grownBy w' (some b):=by
 obtain⟨D,m,g,j,i⟩:=h;obtain⟨w',f,k,l⟩:=m.update pO ht hn (LB hs) (val:=v) (d:=.held v) (ps:=[]) rfl;have a:size (D.put (.string s) (.held v))=if(L s).isSome then sz else sz+1:=by rw[size_put g,(i s).2,j]
 refine⟨w',f,⟨_,by rw[<- a];exact uF k,g.put (by trivial) _,a,λu=>?_⟩,l⟩;unfold upd
 by_cases hu:u=s
 ·subst hu
  rw[ax rfl];exact⟨λz=>by rw[atKey_put_same g.isMap (by trivial)];rfl,by rw[has_put_same g.isMap (by trivial)];rfl⟩
 ·rw[ap hu]
  have c:(Lit.string u)≠.string s:=λe=>hu (by injection e);exact⟨λz=>by rw[atKey_put_other c];exact(i u).1 z,by rw[has_put_other c];exact(i u).2⟩
theorem bz.len (h:bz w b L sz) {t e:TypeId} (ht:Tryz.prog.underlying t=some (.map 9 e)) (ty:TypeId):(Builtin.len_ #[t] ty #[.map (some b)]).run prog w=.ok (.int .i64 sz) w:=by
 obtain⟨D,c,f,a,d⟩:=h;rw[c.len ht,a]
end
abbrev lN (c l:Int):Ending:=.panicked [{ v:=.iface 276 (.agg #[.int .i64 c,.int .i64 l]),recovered:=false }]
def Eq (e:Ending):Prop:=∃c l:Int,e=lN c l
theorem FK (w:World) (c l:Int):Calls prog 225 #[.int .i64 c,.int .i64 l] w λe w'=>e=lN c l/\w=w':=by
 go_enter func225,ntmps225
 go_wp2_with fail;exact⟨rfl,rfl,rfl⟩
theorem bi (w:World) (c l:Int):Calls prog 183 #[.bool true,.int .i64 c,.int .i64 l] w λe w'=>e=.returned (.tuple #[])/\w=w':=by
 go_enter func183,ntmps183
 go_wp2_with fail;go_end0;exact⟨rfl,rfl⟩
theorem eY (w:World) (c l:Int):Calls prog 183 #[.bool false,.int .i64 c,.int .i64 l] w λe w'=>e=lN c l/\w=w':=by
 go_enter func183,ntmps183
 go_wp2_with fail;refine(FK w c l).mono ?_;rintro e w' ⟨rfl,rfl⟩;go_wp2_with fail;exact⟨rfl,rfl,rfl⟩
theorem Fo (w:World) (b:Bool) (c l:Int):Calls prog 183 #[.bool b,.int .i64 c,.int .i64 l] w λe w'=>e=(if b=true then .returned (.tuple #[])else lN c l)/\w=w':=by
 cases b with
 | true=>exact(bi w c l).mono λe w' h=>h
 | false=>exact(eY w c l).mono λe w' h=>h
abbrev mP (b:Nat):Value:=.map (some b)
def fQ (fs:List Fun) (bs:List Nat) (t:Tx):Option Nat:=(fs.findIdx? λf=>decide (f.name=t)).bind λi=>bs[i]?
structure KI (w:World) (n k f mf mu md mt:Nat) (fs:List Fun) (bs:List Nat) (nm:Tx) (U0:Tx->Option Value) (ur:Option Nat) (c:CS):Prop where
 hn:w.heap[n]?=some (.cells #[pB k,pB f,mP md,mP mt] 320 (0,0))
 hk:w.heap[k]?=some (.cells #[mP mf,mP mu,.int .i64 c.left] 281 (0,0))
 hf:∃p vp vb ln,w.heap[f]?=some (fnC nm vp p vb ln)
 decl:bz w md (λt=>if t∈c.decl then some (.bool true)else none) c.decl.length
 there:∃sz,bz w mt (λt=>(c.there.lookup t).map Value.bool) sz/\sz<=c.decl.length
 funcs:∃sz,bz w mf (λt=>(fQ fs bs t).map pB) sz
 uses:∃sz L,bz w mu L sz/\sz+c.left<=1000000/\(∀t,t≠nm->L t=U0 t)/\w.ownsRow 0 9 1 ((L nm).getD (.slice none 0 0)) c.uses.length (txs c.uses)/\((L nm).getD (.slice none 0 0)).ownBlock=ur
 lefts:c.left<=65536
 usesl:c.uses.length+c.left<=1000000
 decll:c.decl.length<=200
 names:nm.length<=4294967296
theorem aY {base:Nat} {e:TypeId} {size:Nat} {xs:List Value} (h:w.ownsRow base e size v n xs) (hc:Chg S w w') (hn:∀g,v.ownBlock=some g->¬S g):w'.ownsRow base e size v n xs:=by
 obtain⟨f,c⟩:=h;refine⟨f,?_⟩;rcases c with c|⟨g,a,b,rfl,i,d,r⟩
 ·exact .inl c
 ·exact .inr ⟨g,a,b,rfl,i,by rw[hc.block _ (ab d) (hn g rfl)];exact d,r⟩
theorem KI.chg (h:KI w n k f mf mu md mt fs bs nm U0 ur c) (hc:Chg S w w')
 (h1:¬S n) (h2:¬S k) (h3:¬S f) (h4:¬S mf) (h5:¬S mu) (h6:¬S md) (h7:¬S mt) (h8:∀g,ur=some g->¬S g):KI w' n k f mf mu md mt fs bs nm U0 ur c:=by
 obtain⟨p,r,q,i,d⟩:=h.hf;obtain⟨sz,L,j,l,m,o,e⟩:=h.uses;exact⟨by rw[hc.block _ (ab h.hn) h1];exact h.hn,by rw[hc.block _ (ab h.hk) h2];exact h.hk,⟨p,r,q,i,by rw[hc.block _ (ab d) h3];exact d⟩,h.decl.chg hc h6,(by obtain⟨s,a,b⟩:=h.there;exact⟨s,a.chg hc h7,b⟩),(by obtain⟨s,a⟩:=h.funcs;exact⟨s,a.chg hc h4⟩),
  ⟨sz,L,j.chg hc h5,l,m,aY o hc (λg hg=>h8 g (e.symm.trans hg)),e⟩,h.lefts,h.usesl,h.decll,h.names⟩
theorem KI.below (h:KI w n k f mf mu md mt fs bs nm U0 ur c) (hb:Below w.heap.size w w'):KI w' n k f mf mu md mt fs bs nm U0 ur c:=
 h.chg (Chg.of_below (S:=λ_=>False) hb) id id id id id id id λ_ _=>id
theorem zI (w:World):(zeroValue 4).run prog w=.ok (.bool false) w:=by kernel_rfl
theorem rB (w:World):(zeroValue 61).run prog w=.ok (.pointer none) w:=by kernel_rfl
theorem yj (w:World):(zeroValue 96).run prog w=.ok (.slice none 0 0) w:=by kernel_rfl
def bF (c:CS):CS:={ c with left:=c.left-1 }
theorem dE (c:CS):bV c=if c.left=0 then none else some (bF c):=rfl
theorem KI.part (h:KI w n k f mf mu md mt fs bs nm U0 ur c)
 (h1:¬n=k) (h3:¬f=k) (h4:¬mf=k) (h5:¬mu=k) (h6:¬md=k) (h7:¬mt=k) (h8:∀g,ur=some g->¬g=k) (hl:c.left≠0):KI (w.setCell ⟨k,2,none⟩ (.int .i64 ((c.left-1:Nat):Int))) n k f mf mu md mt fs bs nm U0 ur (bF c):=by
 have d:Chg (·=k) w (w.setCell ⟨k,2,none⟩ (.int .i64 ((c.left-1:Nat):Int))):=Chg.setCell (S:=(·=k)) (p:=⟨k,2,none⟩) (Chg.refl _ _) (λ_=>rfl) _;obtain⟨p,v,u,o,e⟩:=h.hf;obtain⟨sz,L,q,x,r,t,i⟩:=h.uses;have l:=h.lefts;have m:=h.usesl;exact⟨by rw[d.block _ (ab h.hn) h1];exact h.hn,aA (j:=2) h.hk _,⟨p,v,u,o,by rw[d.block _ (ab e) h3];exact e⟩,h.decl.chg d h6,(by obtain⟨s,a,b⟩:=h.there;exact⟨s,a.chg d h7,b⟩),(by obtain⟨s,a⟩:=h.funcs;exact⟨s,a.chg d h4⟩),
  ⟨sz,L,q.chg d h5,by show sz+(c.left-1)<=_;omega,r,aY t d (λg hg=>h8 g (i.symm.trans hg)),i⟩,by show c.left-1<=_;omega,by show c.uses.length+(c.left-1)<=_;omega,h.decll,h.names⟩
theorem jQ (w:World) (k mf mu:Nat) (ln:Int) (hk:w.heap[k]?=some (.cells #[mP mf,mP mu,.int .i64 0] 281 (0,0))):
  Calls prog 262 #[pB k,.int .i64 ln] w λe w'=>Eq e/\w=w':=by
 have c2:w.cell? ⟨k,2,none⟩=some (.int .i64 0):=(ae hk 2).trans rfl;clear hk
 go_enter func262,ntmps262
 go_wp2_with fail;refine(eY w 3 ln).mono ?_;rintro e u ⟨rfl,rfl⟩;go_wp2_with fail;exact⟨rfl,⟨_,_,rfl⟩,rfl⟩
theorem Cm (w:World) (k:Nat) (m x:Int) (mf mu:Nat) (ln:Int) (hk:w.heap[k]?=some (.cells #[mP mf,mP mu,.int .i64 x] 281 (0,0))) (h0:decide (0<x)=true) (hx:IntKind.i64.wrap (x-1)=m):
  Calls prog 262 #[pB k,.int .i64 ln] w λe w'=>e=.returned (.tuple #[])/\w'=w.setCell ⟨k,2,none⟩ (.int .i64 m):=by
 have c2:w.cell? ⟨k,2,none⟩=some (.int .i64 x):=(ae hk 2).trans rfl;have a:w.frozen? ⟨k,2,none⟩=false:=aD w k 2 _ _ hk;clear hk
 go_enter func262,ntmps262
 go_wp2_with fail;refine(bi w 3 ln).mono ?_;rintro e u ⟨rfl,rfl⟩;go_wp2_with fail;go_end0;exact⟨rfl,rfl⟩
theorem iI (w:World) (k:Nat) (left:Nat) (mf mu:Nat) (ln:Int) (hk:w.heap[k]?=some (.cells #[mP mf,mP mu,.int .i64 left] 281 (0,0))) (hl:left<=65536) (h0:¬left=0):
  Calls prog 262 #[pB k,.int .i64 ln] w λe w'=>e=.returned (.tuple #[])/\w'=w.setCell ⟨k,2,none⟩ (.int .i64 ((left-1:Nat):Int)):=
 Cm w k _ _ mf mu ln hk (by simp;omega) (by rw[lf _ (by omega)];omega)
section
open Go.Maps Go.WideMaps Go.ChangeMaps Go.MapKept
theorem bz.of_block (h:bz w b L sz) (he:w'.heap[b]?=w.heap[b]?):bz w' b L sz:=by
 obtain⟨D,⟨c,a,e,F,f,d⟩,r⟩:=h;exact⟨D,⟨c,a,by rw[he];exact e,F,f,d⟩,r⟩
theorem bz.entry (h:bz w b L sz) {t e:TypeId} (ht:Tryz.prog.underlying t=some (.map 9 e)) (hz:∀u:World,(zeroValue e).run prog u=.ok z u) (hn:sz<maxLen) (hs:s.length<=4294967296) (v:Value):
  ∃v0 st w1 w2,(Instr.mapEntry t (.map (some b)) (.string ⟨s.toArray⟩)).run prog w=.ok (.tuple #[v0,.int .i64 st]) w1/\(Instr.entryStore t (.map (some b)) (.int .i64 st) v).run prog w1=.ok () w2 /\
   bz w2 b (upd L s v) (if(L s).isSome then sz else sz+1)/\Chg (·=b) w w1/\Chg (·=b) w w2:=by
 obtain⟨A,j,i,E⟩:=h.put ht hn hs v;obtain⟨D,⟨B,l,g,F,y,C⟩,r⟩:=h;obtain⟨v0,st,d,a,p,_,q⟩:=Go.WideElems.entry_then_store (string_law underlying9) ht hz g F (LB hs);have f:(setBlock w b (.map d a)).heap[b]?=some (.map d a):=heap_setBlock_same g _;obtain⟨m,c,x,o⟩:=q (setBlock w b (.map d a)) v f;rw[j]at o;have n:A=setBlock w b (.map m c):=by injection o
 refine⟨v0,st,_,_,p,x,i.of_block ?_,?_,?_⟩
 ·rw[heap_setBlock_same f,n,heap_setBlock_same g]
 ·exact⟨rfl,rfl,rfl,by simp[setBlock],λk hk hne=>heap_setBlock_other g _ (by exact hne)⟩
 ·exact⟨rfl,rfl,rfl,by simp[setBlock],λk hk hne=>(heap_setBlock_other f _ (by exact hne)).trans (heap_setBlock_other g _ (by exact hne))⟩
end
section
open Go.Maps Go.WideMaps
theorem zg {kl:Lit} (h:keyOf prog 9 key=some kl):∃x:ByteArray,key=.string x/\kl=.string x.data.toList:=by
 obtain⟨s,a⟩:=(string_law underlying9).str h;rw[keyOf_string underlying9]at h;cases key<;>simp[mapKey,underlying9]at h
 exact⟨_,rfl,h.2.symm⟩
theorem bz.putK (h:bz w b L sz) {t e:TypeId} (ht:Tryz.prog.underlying t=some (.map 9 e)) (hn:sz<maxLen) (hkey:keyOf prog 9 key=some (.string s)) (v:Value):
  ∃w',(Instr.mapUpdate t (.map (some b)) key v).run prog w=.ok () w'/\bz w' b (upd L s v) (if(L s).isSome then sz else sz+1)/\w.grownBy w' (some b):=by
 obtain⟨D,m,g,j,i⟩:=h;obtain⟨w',f,k,l⟩:=m.update pO ht hn hkey (val:=v) (d:=.held v) (ps:=[]) rfl;have a:size (D.put (.string s) (.held v))=if(L s).isSome then sz else sz+1:=by rw[size_put g,(i s).2,j]
 refine⟨w',f,⟨_,by rw[<- a];exact uF k,g.put (by trivial) _,a,λu=>?_⟩,l⟩;unfold upd
 by_cases hu:u=s
 ·subst hu
  rw[ax rfl];exact⟨λz=>by rw[atKey_put_same g.isMap (by trivial)];rfl,by rw[has_put_same g.isMap (by trivial)];rfl⟩
 ·rw[ap hu]
  have c:(Lit.string u)≠.string s:=λe=>hu (by injection e);exact⟨λz=>by rw[atKey_put_other c];exact(i u).1 z,by rw[has_put_other c];exact(i u).2⟩
def nB (L:Tx->Option Value) (left:Lit->Bool):Tx->Option Value:=λt=>if left (.string t)=true then none else L t
theorem ww (hL:∀t:Tx,(∀z,D.atKey (.string t) (.held z)=.held ((L t).getD z))/\has D (.string t)=(L t).isSome):nB L (has D)=λ_=>none:=by
 funext t
 unfold nB;rw[(hL t).2];cases h:L t<;>rfl
theorem BM (h:∀kl,left kl=false):nB L left=L:=by
 funext t;unfold nB;rw[h];rfl
theorem Aa (hl:left (.string s)=true) (hv:L s=some v):upd (nB L left) s v=nB L (λz=>left z&&!z.sameKey (.string s)):=by
 funext t
 unfold upd nB
 by_cases ht:t=s
 ·subst ht
  rw[ax rfl];have:(Lit.string t).sameKey (.string t)=true:=WideAt.sameKey_self (by trivial);simp[this,hv]
 ·rw[ap ht]
  have:(Lit.string t).sameKey (.string s)=false:=sameKey_ne (λe=>ht (by injection e));simp[this]
theorem Ab (hl:left (.string s)=true):(nB L left s).isSome=false:=by unfold nB;rw[ax hl];rfl
end
theorem vl (w:World) (n k f md mt:Nat) (s:Tx) (ln:Int) (p:Bool) (sz:Nat) (L:Tx->Option Value) (hn:w.heap[n]?=some (.cells #[pB k,pB f,mP md,mP mt] 320 (0,0))) (hm:bz w mt L sz) (hs:s.length<=4294967296) (hl:L s=some (.bool p)):
  Calls prog 264 #[pB n,.string ⟨s.toArray⟩,.int .i64 ln] w λe w'=>e=.returned (.bool p)/\w=w':=by
 have b:w.cell? ⟨n,3,none⟩=some (mP mt):=(ae hn 3).trans rfl;have a:(Instr.lookup 318 (mP mt) (.string ⟨s.toArray⟩) true).run prog w=.ok (.tuple #[.bool p,.bool true]) w:=by
  have:=hm.look2 (t:=318) underlying318 (zI w) hs true;rw[hl]at this;exact this
 clear hn hm hl
 go_enter func264,ntmps264
 go_wp2_with fail;refine(bi w 5 ln).mono ?_;rintro e u ⟨rfl,rfl⟩;go_wp2_with fail;go_ret;exact⟨rfl,rfl⟩
theorem vm (w:World) (n k f md mt:Nat) (s:Tx) (ln:Int) (sz:Nat) (L:Tx->Option Value) (hn:w.heap[n]?=some (.cells #[pB k,pB f,mP md,mP mt] 320 (0,0))) (hm:bz w mt L sz) (hs:s.length<=4294967296) (hl:L s=none):
  Calls prog 264 #[pB n,.string ⟨s.toArray⟩,.int .i64 ln] w λe w'=>Eq e/\w=w':=by
 have b:w.cell? ⟨n,3,none⟩=some (mP mt):=(ae hn 3).trans rfl;have a:(Instr.lookup 318 (mP mt) (.string ⟨s.toArray⟩) true).run prog w=.ok (.tuple #[.bool false,.bool false]) w:=by
  have:=hm.look2 (t:=318) underlying318 (zI w) hs true;rw[hl]at this;exact this
 clear hn hm hl
 go_enter func264,ntmps264
 go_wp2_with fail;refine(eY w 5 ln).mono ?_;rintro e u ⟨rfl,rfl⟩;go_wp2_with fail;exact⟨rfl,⟨_,_,rfl⟩,rfl⟩
def Lt (lo:Nat):Nat->Prop:=λk=>k<lo
structure KD (n k f mf mu md mt:Nat) (ur:Option Nat) (lo:Nat):Prop where
 l:lo<=n/\lo<=k/\f<lo/\lo<=mf/\lo<=mu/\lo<=md/\lo<=mt
 an:¬n=k/\¬n=mf/\¬n=mu/\¬n=md/\¬n=mt
 ak:¬k=mf/\¬k=mu/\¬k=md/\¬k=mt
 am:¬mf=mu/\¬mf=md/\¬mf=mt/\¬mu=md/\¬mu=mt/\¬md=mt
 au:∀g,ur=some g->lo<=g/\¬g=n/\¬g=k/\¬g=mf/\¬g=mu/\¬g=md/\¬g=mt
def KS (k mu:Nat) (ur:Option Nat):Nat->Prop:=λi=>i=k\/i=mu\/ur=some i
mutual
def ExW:Ex->Prop
 | .num m=>m<=4294967295
 | .name s=>s.length<=4294967296
 | .un t r=>(t=rC\/t=g9)/\ExW r
 | .bin t l r=>binds t≠0/\ExW l/\ExW r
 | .call s args=>s.length<=4294967296/\args.length<=1000000/\Eh args
 | .cell l r=>ExW l/\ExW r
 | .link l r=>ExW l/\ExW r
 | .new l=>ExW l
 | .inp=>True
def Eh:List Ex->Prop
 | []=>True
 | x::xs=>ExW x/\Eh xs
end
structure Env (w:World) (lo:Nat) (bs:List Nat) (fs:List Fun):Prop where
 funs:dV w (Lt lo) bs fs
 mx:∃m:Int,w.cell? ⟨4,0,none⟩=some (.int .i64 m)
 l4:4<lo
theorem Env.onA (h:Env w lo bs fs) (hs:aX (Lt lo) w w'):Env w' lo bs fs:=by
 obtain⟨m,b⟩:=h.mx;obtain⟨o,c⟩:∃o,w.heap[4]?=some o:=⟨_,mB (aH b)⟩;exact⟨h.funs.onA hs,⟨m,(aI (w:=w) (a:=⟨4,0,none⟩) (by show w'.heap[4]?=w.heap[4]?;rw[hs 4 o h.l4 c,c])).trans b⟩,h.l4⟩
def cm {α:Type} (R:α->Ending->Prop) (o:Option (α×CS)) (n k f mf mu md mt:Nat) (fs:List Fun) (bs:List Nat) (nm:Tx) (U0:Tx->Option Value) (ur:Option Nat) (lo:Nat) (w:World) (e:Ending) (w':World):Prop:=
 Chg (KS k mu ur) w w'/\match o with
 | none=>Eq e
 | some (p,c')=>R p e/\∃ur',KI w' n k f mf mu md mt fs bs nm U0 ur' c'/\KD n k f mf mu md mt ur' lo/\(ur'=ur\/∀g,ur'=some g->w.heap.size<=g)
def MD (p:Bool) (e:Ending):Prop:=e=.returned (.bool p)
def ExC (fs:List Fun) (bs:List Nat) (nm:Tx) (U0:Tx->Option Value) (lo:Nat) (x:Ex):Prop:=
 ∀w n k f mf mu md mt ur c b ln,KI w n k f mf mu md mt fs bs nm U0 ur c->KD n k f mf mu md mt ur lo->Env w lo bs fs->bK w (Lt lo) b x->ExW x ->
  Calls prog 265 #[pB n,pB b,.int .i64 ln] w (cm MD (gA fs x c) n k f mf mu md mt fs bs nm U0 ur lo w)
theorem KS.ge (h:KD n k f mf mu md mt ur lo):∀i,KS k mu ur i->lo<=i:=λi a=>by
 have:=h.l;rcases a with rfl|rfl|a
 ·omega
 ·omega
 ·exact(h.au i a).1
theorem KS.tree (h:KD n k f mf mu md mt ur lo) (hc:Chg (KS k mu ur) w w'):aX (Lt lo) w w':=
 hc.sameOn λi hi hs=>by have:=KS.ge h i hs;have:i<lo:=hi;omega
theorem KS.then {b c:World} {ur':Option Nat} (h:Chg (KS k mu ur) a b) (h2:Chg (KS k mu ur') b c) (hu:ur'=ur\/∀g,ur'=some g->a.heap.size<=g):Chg (KS k mu ur) a c:=by
 refine h.trans h2 λi hi d=>?_;rcases d with d|d|d
 ·exact .inl d
 ·exact .inr (.inl d)
 ·rcases hu with rfl|hu
  ·exact .inr (.inr d)
  ·have:=hu i d;omega
theorem rW {b:World} {ur1 ur2:Option Nat} (hs:a.heap.size<=b.heap.size) (h1:ur1=ur\/∀g,ur1=some g->a.heap.size<=g) (h2:ur2=ur1\/∀g,ur2=some g->b.heap.size<=g):ur2=ur\/∀g,ur2=some g->a.heap.size<=g:=by
 rcases h2 with rfl|h2
 ·exact h1
 ·exact .inr λg hg=>ay hs (h2 g hg)
theorem ti (fs:List Fun) (bs:List Nat) (nm:Tx) (U0:Tx->Option Value) (lo:Nat) (x:Ex) (hx:ExC fs bs nm U0 lo x) (w:World) (n k f mf mu md mt:Nat) (ur:Option Nat) (c:CS) (b:Nat) (ln:Int) (p:Bool)
 (hk:KI w n k f mf mu md mt fs bs nm U0 ur c) (hd:KD n k f mf mu md mt ur lo) (hf:Env w lo bs fs) (ht:bK w (Lt lo) b x) (hw:ExW x):
  Calls prog 263 #[pB n,pB b,.bool p,.int .i64 ln] w (cm (λ_ e=>e=.returned (.tuple #[])) ((dQ fs x p c).map λc'=>((),c')) n k f mf mu md mt fs bs nm U0 ur lo w):=by
 have l:=aa (hx w n k f mf mu md mt ur c b ln hk hd hf ht hw);obtain⟨o,g⟩:∃o,gA fs x c=o:=⟨_,rfl⟩;have B:=aa g;have i:Hid (dQ fs x p c=o.bind λq=>if q.1=p then some q.2 else none):=by show dQ fs x p c=_;rw[<- g];rfl
 rw[g]at l;clear hk hd hf ht hw g
 go_enter func263,ntmps263
 go_wp2_with fail;refine l.mono ?_;rintro e u ⟨m,a⟩;have h:=aa m;clear m;cases o with
 | none =>
  obtain⟨v,y,rfl⟩:=a;go_wp2_with fail;refine⟨rfl,h.out,?_⟩;rw[i.out];exact⟨v,y,rfl⟩
 | some q =>
  obtain⟨q,c'⟩:=q;obtain⟨r,d⟩:=a;have j:e=.returned (.bool q):=r;subst j;have t:=aa d;clear d r
  by_cases hq:q=p
  ·subst hq
   go_wp2_with fail;refine(bi u 10 ln).mono ?_;rintro e z ⟨rfl,rfl⟩;go_wp2_with fail;go_end0;refine⟨h.out,?_⟩;rw[i.out,aj,ax rfl];exact⟨rfl,t.out⟩
  ·have A:(q==p)=false:=by simpa using hq
   have s:=aa hq;clear hq;go_wp2_with fail;refine(eY u 10 ln).mono ?_;rintro e z ⟨rfl,rfl⟩;go_wp2_with fail;refine⟨rfl,h.out,?_⟩;rw[i.out,aj,ap s.out];exact⟨_,_,rfl⟩
def M7 (n k f mf mu md mt:Nat) (fs:List Fun) (bs:List Nat) (nm:Tx) (U0:Tx->Option Value) (ur:Option Nat) (lo:Nat) (c':CS) (w w':World):Prop:=
 Chg (KS k mu ur) w w'/\∃ur',KI w' n k f mf mu md mt fs bs nm U0 ur' c'/\KD n k f mf mu md mt ur' lo/\(ur'=ur\/∀g,ur'=some g->w.heap.size<=g)
theorem cm.gave {α:Type} {R:α->Ending->Prop} {o:Option (α×CS)} (ho:o=none) (hc:Chg (KS k mu ur) w w') (c1 l1:Int):cm R o n k f mf mu md mt fs bs nm U0 ur lo w (lN c1 l1) w':=
 ⟨hc,by rw[ho];exact⟨c1,l1,rfl⟩⟩
theorem cm.ret {α:Type} {R:α->Ending->Prop} {o:Option (α×CS)} {e:Ending} {p:α} (ho:o=some (p,c')) (hc:Chg (KS k mu ur) w w') (hr:R p e)
 (hst:∃ur',KI w' n k f mf mu md mt fs bs nm U0 ur' c'/\KD n k f mf mu md mt ur' lo/\(ur'=ur\/∀g,ur'=some g->w.heap.size<=g)):cm R o n k f mf mu md mt fs bs nm U0 ur lo w e w':=
 ⟨hc,by rw[ho];exact⟨hr,hst⟩⟩
theorem ExC.some (hx:ExC fs bs nm U0 lo x) 
 (hk:KI w n k f mf mu md mt fs bs nm U0 ur c) (hd:KD n k f mf mu md mt ur lo) (hf:Env w lo bs fs) (ht:bK w (Lt lo) b x) (hw:ExW x) {p:Bool} (ho:gA fs x c=some (p,c')):
  Calls prog 265 #[pB n,pB b,.int .i64 ln] w.drew λe w'=>e=.returned (.bool p)/\M7 n k f mf mu md mt fs bs nm U0 ur lo c' w w':=by
 have a:Below w.heap.size w w.drew:=(ai _ _).drew;refine(hx w.drew n k f mf mu md mt ur c b ln (hk.below a) hd (hf.onA (aX.below a)) (ht.onA (aX.below a)) hw).mono ?_;intro e w' h;rw[ho]at h;obtain⟨d,g,h⟩:=h;exact⟨g,(Chg.of_below a).then d,h⟩
theorem ExC.none (hx:ExC fs bs nm U0 lo x) 
 (hk:KI w n k f mf mu md mt fs bs nm U0 ur c) (hd:KD n k f mf mu md mt ur lo) (hf:Env w lo bs fs) (ht:bK w (Lt lo) b x) (hw:ExW x) (ho:gA fs x c=none):
  Calls prog 265 #[pB n,pB b,.int .i64 ln] w.drew λe w'=>∃c1 l1,e=lN c1 l1/\Chg (KS k mu ur) w w':=by
 have a:Below w.heap.size w w.drew:=(ai _ _).drew;refine(hx w.drew n k f mf mu md mt ur c b ln (hk.below a) hd (hf.onA (aX.below a)) (ht.onA (aX.below a)) hw).mono ?_;intro e w' h;rw[ho]at h;obtain⟨d,c1,l1,rfl⟩:=h;exact⟨c1,l1,rfl,(Chg.of_below a).then d⟩
def gD (fs:List Fun) (l r:Ex) (c:CS):Option ((Bool×Bool)×CS):=(gA fs l c).bind λa=>(gA fs r a.2).bind λb=>some ((a.1,b.1),b.2)
def In (p:Bool×Bool) (e:Ending):Prop:=e=.returned (.tuple #[.bool p.1,.bool p.2])
theorem tI (fs:List Fun) (bs:List Nat) (nm:Tx) (U0:Tx->Option Value) (lo:Nat) (l r:Ex) (hl:ExC fs bs nm U0 lo l) (hr:ExC fs bs nm U0 lo r) (w:World) (n k f mf mu md mt:Nat) (ur:Option Nat) (c:CS) (b lb rb:Nat) (kk kn:Int) (knm kt:Tx) (ka:Value) (ln:Int)
 (hk:KI w n k f mf mu md mt fs bs nm U0 ur c) (hd:KD n k f mf mu md mt ur lo) (hf:Env w lo bs fs) (hb:b<lo) (hn:w.heap[b]?=some (exC kk kn knm kt (pB lb) (pB rb) ka ln)) (htl:bK w (Lt lo) lb l) (htr:bK w (Lt lo) rb r) (hwl:ExW l) (hwr:ExW r):
  Calls prog 274 #[pB n,pB b] w (cm In (gD fs l r c) n k f mf mu md mt fs bs nm U0 ur lo w):=by
 have L:w.cell? ⟨b,4,none⟩=some (pB lb):=(ae hn 4).trans rfl;have M:w.cell? ⟨b,7,none⟩=some (.int .i64 ln):=(ae hn 7).trans rfl;have O:=aa hn;clear hn;cases ho:gA fs l c with
 | none =>
  have D:=aa (hl.none (lo:=lo) (b:=lb) (ln:=ln) hk hd hf htl hwl ho);have t:=aa (show gD fs l r c=none by unfold gD;rw[ho];rfl);clear ho
  go_enter func274,ntmps274
  go_wp2_with fail;have g:Hid (∀q c1 d,Chg (KS k mu ur) w q->cm In (gD fs l r c) n k f mf mu md mt fs bs nm U0 ur lo w (lN c1 d) q):=λq c1 d s=>⟨s,by rw[t.out];exact⟨c1,d,rfl⟩⟩
  go_still_tail 9,(by kernel_rfl)
  change wpList _ _ _ _ _ w.drew;go_wp2_with fail;refine D.mono ?_;rintro e q ⟨c1,d,rfl,hr⟩;go_wp2_with fail;exact⟨rfl,g.out q c1 d hr⟩
 | some a =>
  obtain⟨N,Q⟩:=a;have D:=aa (hl.some (lo:=lo) (b:=lb) (ln:=ln) hk hd hf htl hwl ho);have u:=aa ho;clear ho
  go_enter func274,ntmps274
  go_wp2_with fail
  go_still_tail 9,(by kernel_rfl)
  change wpList _ _ _ _ _ w.drew;go_wp2_with fail;refine D.mono ?_;rintro e q ⟨rfl,s,I,y,x,p⟩;have o:=KS.tree hd s;have j:=o b _ hb O.out;have T:q.cell? ⟨b,5,none⟩=some (pB rb):=(ae j 5).trans rfl;have U:q.cell? ⟨b,7,none⟩=some (.int .i64 ln):=(ae j 7).trans rfl;have C:=aa s;have E:=aa p;cases ho:gA fs r Q with
  | none =>
   have B:=aa (hr.none (lo:=lo) (b:=rb) (ln:=ln) y x (hf.onA o) (htr.onA o) hwr ho);have t:=aa (show gD fs l r c=none by unfold gD;rw[u.out,aj,ho];rfl);clear ho s p j o L M;go_wp2_with fail;refine wp_region_any (by kernel_rfl) ?_;change wpAny _ _ _ _ _ _ _ (World.drew _);refine LD (i:=0) (v:=.bool N) rfl (by kernel_rfl) (by kernel_rfl) (by kernel_rfl) (λ_ _ _ h=>h) (Or.inl ⟨by rfl,by intro w;go_simp⟩) ?_;refine LD (i:=1) (v:=pB n) rfl (by kernel_rfl) (by kernel_rfl) (by kernel_rfl) (λ_ _ _ h=>h) (Or.inl ⟨by rfl,by intro w;go_simp⟩) ?_;refine LD (i:=2) (v:=pB b) rfl (by kernel_rfl) (by kernel_rfl) (by kernel_rfl) (λ_ _ _ h=>h) (Or.inl ⟨by rfl,by intro w;go_simp⟩) ?_;refine LD (i:=3) (v:=pB b) rfl (by kernel_rfl) (by kernel_rfl) (by kernel_rfl) (λ_ _ _ h=>h) (Or.inl ⟨by rfl,by intro w;go_simp⟩) ?_;refine LD (i:=4) (v:=.pointer (some ⟨b,5,none⟩)) rfl (by kernel_rfl) (by kernel_rfl) (by kernel_rfl) (λ_ _ _ h=>h) (Or.inl ⟨by rfl,by intro w;go_simp⟩) ?_;refine LD (i:=6) (v:=pB b) rfl (by kernel_rfl) (by kernel_rfl) (by kernel_rfl) (λ_ _ _ h=>h) (Or.inl ⟨by rfl,by intro w;go_simp⟩) ?_;refine LD (i:=7) (v:=pB b) rfl (by kernel_rfl) (by kernel_rfl) (by kernel_rfl) (λ_ _ _ h=>h) (Or.inl ⟨by rfl,by intro w;go_simp⟩) ?_;refine LD (i:=8) (v:=.pointer (some ⟨b,7,none⟩)) rfl (by kernel_rfl) (by kernel_rfl) (by kernel_rfl) (λ_ _ _ h=>h) (Or.inl ⟨by rfl,by intro w;go_simp⟩) ?_;have g:Hid (∀z c1 d,Chg (KS k mu I) q z->cm In (gD fs l r c) n k f mf mu md mt fs bs nm U0 ur lo w (lN c1 d) z):=λz c1 d m=>⟨KS.then C.out m E.out,by rw[t.out];exact⟨c1,d,rfl⟩⟩;refine wpAny_ready (rs:=[5,9]) (by kernel_rfl) (by simp) ?_;refine M9 rfl (λK hK=>?_) (M9 rfl (λK hK=>?_) AllReady.nil)
   ·go_simp
    refine hK _ _ ?_;clear hK K;refine wpAny_ready (rs:=[9]) (by kernel_rfl) (by simp) ?_;refine M9 rfl (λK hK=>?_) AllReady.nil;go_simp;refine hK _ _ ?_;clear hK K;refine wpAny_ready (rs:=[10]) (by kernel_rfl) (by simp) ?_;refine M9 rfl (λK hK=>?_) AllReady.nil;go_simp
    go_at_call 265
    refine B.mono ?_;rintro e z ⟨c1,d,rfl,m⟩;exact⟨rfl,g.out z c1 d m⟩
   ·go_simp
    refine hK _ _ ?_;clear hK K;refine wpAny_ready (rs:=[5]) (by kernel_rfl) (by simp) ?_;refine M9 rfl (λK hK=>?_) AllReady.nil;go_simp;refine hK _ _ ?_;clear hK K;refine wpAny_ready (rs:=[10]) (by kernel_rfl) (by simp) ?_;refine M9 rfl (λK hK=>?_) AllReady.nil;go_simp
    go_at_call 265
    refine B.mono ?_;rintro e z ⟨c1,d,rfl,m⟩;exact⟨rfl,g.out z c1 d m⟩
  | some b' =>
   obtain⟨S,R⟩:=b';have B:=aa (hr.some (lo:=lo) (b:=rb) (ln:=ln) y x (hf.onA o) (htr.onA o) hwr ho);have t:=aa (show gD fs l r c=some ((N,S),R) by unfold gD;rw[u.out,aj,ho];rfl);clear ho s p j o L M;go_wp2_with fail
   go_region_with (go_at_call 265;refine B.mono ?_;rintro e z ⟨rfl,m,J,H,G,A⟩;have P:=aa m;have F:=aa A;clear m A)
   all_goals
    go_wp2_with fail;go_ret2;refine⟨KS.then C.out P.out E.out,?_⟩;rw[t.out];exact⟨rfl,J,H,G,rW C.size E.out F.out⟩
def Ej:Prop:=∀(w:World) (t:Tx),(∃m:Int,w.cell? ⟨4,0,none⟩=some (.int .i64 m))->binds t≠0->Calls prog 282 #[.string ⟨t.toArray⟩] w λe w'=>e=.returned (.bool true)/\Below w.heap.size w w'
def LS (_:Unit) (e:Ending):Prop:=e=.returned (.tuple #[])
theorem Mc (fs:List Fun) (bs:List Nat) (nm:Tx) (U0:Tx->Option Value) (lo:Nat) (t:Tx) (r:Ex) (hr:ExC fs bs nm U0 lo r) (w:World) (n k f mf mu md mt:Nat) (ur:Option Nat) (c:CS) (b rb:Nat) (ln:Int)
 (hk:KI w n k f mf mu md mt fs bs nm U0 ur c) (hd:KD n k f mf mu md mt ur lo) (hf:Env w lo bs fs) (hb:b<lo) (hn:w.heap[b]?=some (exC 3 0 [] t (.pointer none) (pB rb) (.slice none 0 0) ln)) (htr:bK w (Lt lo) rb r) (ht:t=rC\/t=g9) (hwr:ExW r):
  Calls prog 272 #[pB n,pB b] w (cm LS ((dQ fs r false c).map λc'=>((),c')) n k f mf mu md mt fs bs nm U0 ur lo w):=by
 have s:w.cell? ⟨b,3,none⟩=some (.string ⟨t.toArray⟩):=(ae hn 3).trans rfl;have v:w.cell? ⟨b,4,none⟩=some (.pointer none):=(ae hn 4).trans rfl;have o:w.cell? ⟨b,5,none⟩=some (pB rb):=(ae hn 5).trans rfl;have p:w.cell? ⟨b,7,none⟩=some (.int .i64 ln):=(ae hn 7).trans rfl;have A:=aa hn;have l:Hid (∀q,Calls prog 263 #[pB n,pB rb,.bool false,.int .i64 ln] (w.drewN q).drew (cm LS ((dQ fs r false c).map λc'=>((),c')) n k f mf mu md mt fs bs nm U0 ur lo w)):=λq=>by
  have d:Below w.heap.size w (w.drewN q).drew:=⟨rfl,rfl,rfl,ag _,λk hk=>rfl⟩;refine(ti fs bs nm U0 lo r hr (w.drewN q).drew n k f mf mu md mt ur c rb ln false (hk.below d) hd (hf.onA (aX.below d)) (htr.onA (aX.below d)) hwr).mono ?_;rintro e C ⟨i,h⟩;exact⟨(Chg.of_below d).then i,h⟩
 clear hn hk hd hf htr hwr;rcases ht with ht|ht
 all_goals
  subst ht
  go_enter func272,ntmps272
  go_wp2_with fail
  go_quiet (first
   | (go_at_call 183;exact(bi _ _ _).mono λe u ⟨h1,h2⟩=>⟨h1,_,h2.symm⟩))
  have x:(w.drewN nq).cell? ⟨b,5,none⟩=some (pB rb):=o;have y:(w.drewN nq).cell? ⟨b,7,none⟩=some (.int .i64 ln):=p;have g:=aa (l.out nq);clear s v o p l;generalize w.drewN nq=w2 at x y g;go_wp2_with fail
  go_still_tail 9,(by kernel_rfl)
  change wpList _ _ _ _ _ w2.drew;go_wp2_with fail;refine g.mono ?_;rintro e z a;have m:=aa a;obtain⟨i,a⟩:=a;cases ho:dQ fs r false c with
  | none =>
   rw[ho]at a;obtain⟨c1,B,rfl⟩:=a;clear ho;go_wp2_with fail;exact⟨rfl,m.out⟩
  | some c' =>
   rw[ho]at a;obtain⟨a,_⟩:=a;have j:e=.returned (.tuple #[]):=a;subst j;clear ho a i;go_wp2_with fail;go_end0;exact m.out
theorem KA (hbin:Ej) (fs:List Fun) (bs:List Nat) (nm:Tx) (U0:Tx->Option Value) (lo:Nat) (t:Tx) (l r:Ex) (hl:ExC fs bs nm U0 lo l) (hr:ExC fs bs nm U0 lo r) (w:World) (n k f mf mu md mt:Nat) (ur:Option Nat) (c:CS) (b lb rb:Nat) (ln:Int)
 (hk:KI w n k f mf mu md mt fs bs nm U0 ur c) (hd:KD n k f mf mu md mt ur lo) (hf:Env w lo bs fs) (hb:b<lo) (hn:w.heap[b]?=some (exC 3 0 [] t (pB lb) (pB rb) (.slice none 0 0) ln)) (htl:bK w (Lt lo) lb l) (htr:bK w (Lt lo) rb r) (ht:binds t≠0) (hwl:ExW l) (hwr:ExW r):
  Calls prog 272 #[pB n,pB b] w (cm LS ((gD fs l r c).bind λq=>if q.1.1=false/\q.1.2=false then some ((),q.2)else none) n k f mf mu md mt fs bs nm U0 ur lo w):=by
 have M:w.cell? ⟨b,3,none⟩=some (.string ⟨t.toArray⟩):=(ae hn 3).trans rfl;have V:w.cell? ⟨b,4,none⟩=some (pB lb):=(ae hn 4).trans rfl;have N:w.cell? ⟨b,7,none⟩=some (.int .i64 ln):=(ae hn 7).trans rfl;have L:=aa hn;have U:=aa (show Calls prog 282 #[.string ⟨t.toArray⟩] w.drew λe q=>e=.returned (.bool true)/\(q.cell? ⟨b,3,none⟩=some (.string ⟨t.toArray⟩)/\q.cell? ⟨b,7,none⟩=some (.int .i64 ln))/\Hid (Below w.heap.size w q) from by
  refine(hbin w.drew t hf.mx ht).mono ?_;rintro e q ⟨rfl,J⟩;have y:Below w.heap.size w q:=(ai _ _).drew.trans J;have s:q.heap[b]?=some (exC 3 0 [] t (pB lb) (pB rb) (.slice none 0 0) ln):=by rw[y.block _ (ab hn)];exact hn
  exact⟨rfl,⟨(ae s 3).trans rfl,(ae s 7).trans rfl⟩,y⟩)
 clear hn
 go_enter func272,ntmps272
 go_wp2_with fail
 go_region_held3 (λw'=>w'.cell? ⟨b,3,none⟩=some (.string ⟨t.toArray⟩)/\w'.cell? ⟨b,7,none⟩=some (.int .i64 ln))
  (first
   | (exact⟨M,N⟩)
   | (exact⟨O,P⟩)
   | go_keep)
  (first
   | (go_at_call 282;refine U.mono ?_;rintro e q ⟨rfl,⟨O,P⟩,J⟩)
   | (go_at_call 183;refine(bi _ _ _).mono ?_;rintro e u ⟨rfl,rfl⟩))
 all_goals
  have d:=aa J.out;have v:=aa (show q.heap[b]?=some (exC 3 0 [] t (pB lb) (pB rb) (.slice none 0 0) ln) from by rw[d.block _ (ab L.out)];exact L.out);have F:=aa (tI fs bs nm U0 lo l r hl hr q n k f mf mu md mt ur c b lb rb 3 0 [] t _ ln (hk.below d.out) hd (hf.onA (aX.below d.out)) hb v.out (htl.onA (aX.below d.out)) (htr.onA (aX.below d.out)) hwl hwr);clear M V N O P;go_wp2_with fail;refine F.mono ?_;rintro e z ⟨D,E⟩;have C:=aa ((Chg.of_below (S:=KS k mu ur) d.out).then D);cases ho:gD fs l r c with
  | none =>
   rw[ho]at E;obtain⟨c1,W,rfl⟩:=E;have j:=aa ho;clear ho D;go_wp2_with fail;exact⟨rfl,cm.gave (by rw[j.out];rfl) C.out c1 W⟩
  | some a =>
   obtain⟨⟨Q,R⟩,c'⟩:=a;rw[ho]at E;obtain⟨A,i,o,m,B⟩:=E;have K:e=.returned (.tuple #[.bool Q,.bool R]):=A;subst K;have x:=KS.tree hd D b _ hb v.out;have X:z.cell? ⟨b,7,none⟩=some (.int .i64 ln):=(ae x 7).trans rfl;have H:=aa o;have G:=aa m;have I:=aa (show i=ur\/∀g,i=some g->w.heap.size<=g from B.imp id λh g hg=>ay d.size (h g hg));have j:=aa ho;clear ho D A o m B x;cases Q with
   | true =>
    go_wp2_with fail;refine(eY z 10 ln).mono ?_;rintro e T ⟨rfl,rfl⟩;go_wp2_with fail;exact⟨rfl,cm.gave (by rw[j.out];rfl) C.out _ _⟩
   | false =>
    cases R with
    | true =>
     go_wp2_with fail;refine(eY z 10 ln).mono ?_;rintro e T ⟨rfl,rfl⟩;go_wp2_with fail;exact⟨rfl,cm.gave (by rw[j.out];rfl) C.out _ _⟩
    | false =>
     go_wp2_with fail;refine(bi z 10 ln).mono ?_;rintro e T ⟨rfl,rfl⟩;go_wp2_with fail;go_end0;exact cm.ret (p:=()) (c':=c') (by rw[j.out];rfl) C.out rfl ⟨i,H.out,G.out,I.out⟩
end Go.Proofs.YtbeaaimcpkogcaaGreatDoor
