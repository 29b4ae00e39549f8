/- Lemmas on the way to the claim. -/
import Derived.Test.YtbeaaimcpkogcaaGreatDoorM00
set_option linter.unusedSimpArgs false
set_option linter.unusedVariables false
namespace Go.Proofs.YtbeaaimcpkogcaaGreatDoor
variable {d m n:Nat} {p:Bool}
abbrev Tx:=List UInt8
def KB:Tx:=[40,41,123,125,91,93,44,59,58,61,60,62,43,45,124,94,38,42,47,37,33]
def pe (c:Int):Bool:=decide (0<=c)&&KB.any λu=>decide ((u.toNat:Int)=c)
def ki (c:Int):Int:=if c=32\/c=9\/c=13\/c=10 then 1 else if(97<=c/\c<=122)\/(65<=c/\c<=90)\/c=95 then 2 else if 48<=c/\c<=57 then 3 else if pe c=true then 4 else 0
def dL (u:UInt8):Int:=ki (u.toNat:Int)
structure Tok where
 kind:Int
 text:Tx
deriving DecidableEq
def jx:List Tx:=[[102,117,110,99],[118,97,114],[112,116,114],[105,102],[101,108,115,101],[119,104,105,108,101],[111,117,116],[102,114,101,101],[100,114,97,105,110],[114,101,116,117,114,110],[110,101,119],[105,110]]
def lp:List Tx:=[[124,124],[38,38],[61,61],[33,61],[60,61],[62,61],[60,60],[62,62]]
def oK (s:Tx):Bool:=decide (2<=s.length)&&lp.contains (s.take 2)
def tY (s:Tx):Nat:=s.foldl (λn u=>n*10+(u.toNat-48)) 0
def dI (ks:List Int) (s:Tx):Nat:=(s.takeWhile λu=>ks.contains (dL u)).length
def jJ (s:Tx):Bool:=[47,47].isPrefixOf s
def dx (s:Tx):Option (Option Tok×Tx):=
 match s with
 | []=>none
 | c::r =>
  if jJ s=true then some (none,s.dropWhile λu=>decide (u≠10))
  else if dL c=1 then some (none,r)
  else if dL c=2 then
   let n:=dI [2,3] s
   if 32<n then none
   else some (some ⟨if jx.contains (s.take n)=true then 4 else 1,s.take n⟩,s.drop n)
  else if dL c=3 then
   let n:=dI [3] s
   if(c=48/\1<n)\/0<dI [2] (s.drop n)then none
   else if 4294967295<tY (s.take n)then none
   else some (some ⟨2,s.take n⟩,s.drop n)
  else if dL c=4 then
   if oK s=true then some (some ⟨3,s.take 2⟩,s.drop 2)else some (some ⟨3,s.take 1⟩,s.drop 1)
  else none
def rp:Nat->Tx->List Tok->Option (List Tok)
 | _,[],out=>some (out++[⟨5,[]⟩])
 | 0,_::_,_=>none
 | n+1,c::r,out=>match dx (c::r)with
  | none=>none
  | some (none,s)=>rp n s out
  | some (some t,s)=>rp n s (out++[t])
def gI (s:Tx):Option (List Tok):=if 32768<s.length then none else rp s.length s []
def Gt:List (Array UInt8×Array UInt8):=[(#[],#[]),(#[108,105],#[97,105]),(#[108,117,105],#[97,106]),(#[97,100,100],#[97,98,99]),(#[115,117,98],#[97,98,99]),(#[109,117,108],#[97,98,99]),(#[100,105,118],#[97,98,99]),(#[114,101,109],#[97,98,99]),(#[97,110,100],#[97,98,99]),(#[111,114],#[97,98,99]),(#[120,111,114],#[97,98,99]),(#[115,104,108],#[97,98,99]),(#[115,104,114],#[97,98,99]),(#[108,116],#[97,98,99]),(#[108,116,117],#[97,98,99]),(#[101,113],#[97,98,99]),(#[97,100,100,105],#[97,98,105]),(#[108,98],#[97,98,105]),(#[108,104],#[97,98,105]),(#[108,119],#[97,98,105]),(#[115,98],#[97,98,105]),(#[115,104],#[97,98,105]),(#[115,119],#[97,98,105]),(#[108,99],#[97,98,105]),(#[115,99],#[97,98,105]),(#[98,101,113],#[97,98,105]),(#[98,110,101],#[97,98,105]),(#[98,108,116],#[97,98,105]),(#[98,103,101],#[97,98,105]),(#[106,97,108],#[97,106]),(#[106,97,108,114],#[97,98]),(#[109,111,118,101],#[97,98]),(#[105,110,99],#[97,98,99]),(#[105,110,99,105],#[97,98,105]),(#[97,100,100,114],#[97,98,99]),(#[115,101,116],#[97,98,99]),(#[101,120,97,99,116],#[97,98,99]),(#[97,110,100,115],#[97,98,99]),(#[115,101,97,108],#[97,98,99]),(#[111,112,101,110],#[97,98,99]),(#[98,117,105,108,100],#[97,98,99]),(#[99,108,101,97,114],#[97,98]),(#[103,97,100,100,114],#[97,98]),(#[103,98,97,115,101],#[97,98]),(#[103,108,101,110],#[97,98]),(#[103,112,101,114,109],#[97,98]),(#[103,116,121,112,101],#[97,98]),(#[103,116,97,103],#[97,98]),(#[105,115,105,110,116],#[97,98]),(#[112,99],#[97,106]),(#[99,97,108,108],#[97,98]),(#[114,101,116],#[]),(#[101,99,97,108,108],#[105]),(#[116,114,97,112],#[])]
def nmN (k:Nat):ByteArray:=⟨(Gt.getD k (#[],#[])).1⟩
def fmN (k:Nat):ByteArray:=⟨(Gt.getD k (#[],#[])).2⟩
def nm (op:Int):ByteArray:=if 0<=op/\op<=53 then nmN op.toNat else⟨#[]⟩
def fm (op:Int):ByteArray:=if 0<=op/\op<=53 then fmN op.toNat else⟨#[]⟩
def ir (S:ByteArray) (L:Int):Bool:=S.data.toList.any λu=>(u.toNat:Int)==L
def AM (S:ByteArray) (L v:Int):Bool:=if ir S L=true then decide (0<=v/\v<=15)else decide (v=0)
def mH (op a b c m:Int):Bool:=
 decide (1<=op/\op<=53)&&(AM (fm op) 97 a&&AM (fm op) 98 b&&AM (fm op) 99 c) &&
  (if ir (fm op) 106=true then decide (-524288<=m/\m<=524287)else if ir (fm op) 105=true then decide (-2048<=m/\m<=2047)else decide (m=0))
def xo (op m:Int):Int:=if m<0 then(if ir (fm op) 106=true then m+1048576 else m+4096)else m
def ez (op a b c m:Int):Int:=op*16777216+a*1048576+b*65536+c*4096+xo op m
def iS (op a b c m:Int):Int:=if mH op a b c m=true then ez op a b c m else 0
def jh (op a b c m:Int):Int:=if mH op a b c m=true then 0 else 2
inductive Ex where
 | num (n:Nat)
 | name (s:Tx)
 | un (t:Tx) (r:Ex)
 | bin (t:Tx) (l r:Ex)
 | call (s:Tx) (args:List Ex)
 | cell (l r:Ex)
 | link (l r:Ex)
 | new (l:Ex)
 | inp
inductive Sm where
 | var (n:Tx) (p:Bool) (r:Option Ex)
 | set (n:Tx) (r:Ex)
 | cell (l r:Ex)
 | iff (r:Ex) (a b:List Sm)
 | whl (r:Ex) (a:List Sm)
 | out (r:Ex)
 | free (r:Ex)
 | drain
 | ret (r:Option Ex)
 | call (r:Ex)
structure Par where
 name:Tx
 ptr:Bool
deriving DecidableEq
structure Fun where
 name:Tx
 params:List Par
 ptr:Bool
 body:List Sm
structure PS where
 ts:List Tok
 d:Nat
def hd (s:PS):Tok:=s.ts.headD ⟨5,[]⟩
def aS (s:PS):PS:=⟨if 1<s.ts.length then s.ts.tail else s.ts,s.d⟩
def isW (w:Tx) (s:PS):Bool:=(decide ((hd s).kind=4)||decide ((hd s).kind=3))&&decide ((hd s).text=w)
def bP (w:Tx) (s:PS):Option PS:=if isW w s=true then some (aS s)else none
def inW {α:Type} (w:Tx) (s:PS) (k:PS->Option (α×PS)):Option (α×PS):=
 if isW w s=true/\64<=s.d then none
 else(bP w s).bind λs1=>(k ⟨s1.ts,s1.d+1⟩).bind λr=>some (r.1,⟨r.2.ts,r.2.d-1⟩)
def cR (s:PS):Option (Tx×PS):=if(hd s).kind=1 then some ((hd s).text,aS s)else none
def cF (w:Tx) (s:PS):Bool×PS:=if isW w s=true then(true,aS s)else(false,s)
def iQ:List (Tx×Int):=[([124,124],1),([38,38],2),([61,61],3),([33,61],3),([60],4),([60,61],4),([62],4),([62,61],4),([43],5),([45],5),([124],5),([94],5),([42],6),([47],6),([37],6),([38],6),([60,60],6),([62,62],6)]
def binds (t:Tx):Int:=((iQ.find? λr=>decide (r.1=t)).map (·.2)).getD 0
abbrev rC:Tx:=[33]
abbrev g9:Tx:=[45]
abbrev cD:Tx:=[40]
abbrev bR:Tx:=[41]
abbrev ss:Tx:=[91]
abbrev A4:Tx:=[93]
abbrev fu:Tx:=[123]
abbrev c8:Tx:=[125]
abbrev fy:Tx:=[44]
abbrev bU:Tx:=[59]
abbrev jo:Tx:=[58]
abbrev wEq:Tx:=[61]
abbrev mh:Tx:=[102,117,110,99]
abbrev tV:Tx:=[118,97,114]
abbrev cY:Tx:=[112,116,114]
abbrev wIf:Tx:=[105,102]
abbrev iu:Tx:=[101,108,115,101]
abbrev jI:Tx:=[119,104,105,108,101]
abbrev yo:Tx:=[111,117,116]
abbrev nl:Tx:=[102,114,101,101]
abbrev jY:Tx:=[100,114,97,105,110]
abbrev fS:Tx:=[114,101,116,117,114,110]
abbrev ri:Tx:=[110,101,119]
abbrev wIn:Tx:=[105,110]
mutual
def cZ:Nat->Int->PS->Option (Ex×PS)
 | 0,_,_=>none
 | n+1,close,s=>(gl n s).bind λr=>ib n close r.1 r.2
def ib:Nat->Int->Ex->PS->Option (Ex×PS)
 | 0,_,_,_=>none
 | n+1,close,x,s =>
  if(hd s).kind≠3\/binds (hd s).text=0\/binds (hd s).text<close then some (x,s)
  else(cZ n (binds (hd s).text+1) (aS s)).bind λr=>ib n close (.bin (hd s).text x r.1) r.2
def gl:Nat->PS->Option (Ex×PS)
 | 0,_=>none
 | n+1,s=>if isW rC s=true\/isW g9 s=true then(inW (hd s).text s (gl n)).bind λr=>some (.un (hd s).text r.1,r.2)else fU n s
def eS:Nat->Tx->Tx->PS->Option (Ex×PS)
 | 0,_,_,_=>none
 | n+1,a,b,s=>inW a s λs1=>(cZ n 1 s1).bind λr=>(bP b r.2).bind λs2=>some (r.1,s2)
def fU:Nat->PS->Option (Ex×PS)
 | 0,_=>none
 | n+1,s=>(dG n s).bind λr=>gT n r.1 r.2
def gT:Nat->Ex->PS->Option (Ex×PS)
 | 0,_,_=>none
 | n+1,x,s =>
  if isW ss s=true then(eS n ss A4 s).bind λr=>gT n (.cell x r.1) r.2
  else if isW jo s=true then(dN n (aS s)).bind λr=>gT n (.link x r.1) r.2
  else some (x,s)
def dN:Nat->PS->Option (Ex×PS)
 | 0,_=>none
 | n+1,s =>
  if isW cD s=true then eS n cD bR s
  else if(hd s).kind=2 then some (.num (tY (hd s).text),aS s)
  else(cR s).bind λr=>some (.name r.1,r.2)
def dG:Nat->PS->Option (Ex×PS)
 | 0,_=>none
 | n+1,s =>
  if isW ri s=true then(eS n cD bR (aS s)).bind λr=>some (.new r.1,r.2)
  else if isW wIn s=true then(inW cD (aS s) λs1=>(bP bR s1).bind λs2=>some ((),s2)).bind λr=>some (.inp,r.2)
  else(dN n s).bind λr =>
   if(hd s).kind=1/\isW cD r.2=true then
    (inW cD r.2 λs2=>(jT n true [] s2).bind λl=>(bP bR l.2).bind λs3=>some (l.1,s3)).bind λl=>some (.call (hd s).text l.1,l.2)
   else some r
def jT:Nat->Bool->List Ex->PS->Option (List Ex×PS)
 | 0,_,_,_=>none
 | n+1,one,acc,s =>
  if isW bR s=true then some (acc,s)
  else(if one=true then some s else bP fy s).bind λs1=>(cZ n 1 s1).bind λr=>jT n false (acc++[r.1]) r.2
end
def dy (n:Nat) (s:PS):Option (Ex×PS):=(cZ n 1 s).bind λr=>(bP bU r.2).bind λs2=>some (r.1,s2)
mutual
def dc:Nat->PS->Option (List Sm×PS)
 | 0,_=>none
 | n+1,s=>inW fu s λs1=>(dY n [] s1).bind λr=>(bP c8 r.2).bind λs2=>some (r.1,s2)
def dY:Nat->List Sm->PS->Option (List Sm×PS)
 | 0,_,_=>none
 | n+1,acc,s=>if isW c8 s=true then some (acc,s)else(ek n s).bind λr=>dY n (acc++[r.1]) r.2
def dz:Nat->PS->Option (Sm×PS)
 | 0,_=>none
 | n+1,s=>(cZ n 1 s).bind λr=>(dc n r.2).bind λa =>
   if isW iu a.2=true then
    if isW wIf (aS a.2)=true then(dz n (aS (aS a.2))).bind λb=>some (.iff r.1 a.1 [b.1],b.2)
    else(dc n (aS a.2)).bind λb=>some (.iff r.1 a.1 b.1,b.2)
   else some (.iff r.1 a.1 [],a.2)
def ek:Nat->PS->Option (Sm×PS)
 | 0,_=>none
 | n+1,s =>
  if(hd s).kind=4/\(hd s).text≠ri/\(hd s).text≠wIn then
   if(hd s).text=tV then(cR (aS s)).bind λr =>
    if isW wEq (cF cY r.2).2=true then(dy n (aS (cF cY r.2).2)).bind λe=>some (.var r.1 (cF cY r.2).1 (some e.1),e.2)
    else(bP bU (cF cY r.2).2).bind λs4=>some (.var r.1 (cF cY r.2).1 none,s4)
   else if(hd s).text=wIf then dz n (aS s)
   else if(hd s).text=jI then(cZ n 1 (aS s)).bind λr=>(dc n r.2).bind λa=>some (.whl r.1 a.1,a.2)
   else if(hd s).text=yo then(dy n (aS s)).bind λe=>some (.out e.1,e.2)
   else if(hd s).text=nl then(dy n (aS s)).bind λe=>some (.free e.1,e.2)
   else if(hd s).text=jY then(bP bU (aS s)).bind λs2=>some (.drain,s2)
   else if(hd s).text=fS then
    if isW bU (aS s)=true then some (.ret none,aS (aS s))else(dy n (aS s)).bind λe=>some (.ret (some e.1),e.2)
   else none
  else(fU n s).bind λr =>
   if isW wEq r.2=true then
    match r.1 with
    | .name nm=>(dy n (aS r.2)).bind λe=>some (.set nm e.1,e.2)
    | .cell a b=>(dy n (aS r.2)).bind λe=>some (.cell (.cell a b) e.1,e.2)
    | .link a b=>(dy n (aS r.2)).bind λe=>some (.cell (.link a b) e.1,e.2)
    | _=>none
   else
    match r.1 with
    | .call a b=>(bP bU r.2).bind λs2=>some (.call (.call a b),s2)
    | _=>none
end
def fI:Nat->Bool->List Par->PS->Option (List Par×PS)
 | 0,_,_,_=>none
 | n+1,one,acc,s =>
  if isW bR s=true then some (acc,s)
  else(if one=true then some s else bP fy s).bind λs1=>(cR s1).bind λr=>fI n false (acc++[⟨r.1,(cF cY r.2).1⟩]) (cF cY r.2).2
def dl (n:Nat) (s:PS):Option (Fun×PS):=
 (bP mh s).bind λs1=>(cR s1).bind λr =>
  (inW cD r.2 λs2=>(fI n true [] s2).bind λl=>(bP bR l.2).bind λs3=>some (l.1,s3)).bind λl =>
   (dc n (cF cY l.2).2).bind λb=>some (⟨r.1,l.1,(cF cY l.2).1,b.1⟩,b.2)
def gr:Nat->List Fun->PS->Option (List Fun)
 | 0,_,_=>none
 | n+1,acc,s=>if(hd s).kind=5 then some acc else(dl n s).bind λr=>gr n (acc++[r.1]) r.2
def Out {α:Type} (f:Nat->Option α) (o:Option α):Prop:=
 match o with
 | some r=>∃n,f n=some r
 | none=>∀n,f n=none
def ld {α:Type} (f:Nat->Option α):Prop:=∀n r,f n=some r->f (n+1)=some r
theorem ld.le {α:Type} {f:Nat->Option α} (h:ld f) (hnm:n<=m) {r:α} (e:f n=some r):f m=some r:=by
 obtain⟨k,rfl⟩:=Nat.exists_eq_add_of_le hnm
 induction k with
 | zero=>exact e
 | succ k ih=>exact h _ _ (ih (by omega))
theorem ld.det {α:Type} {f:Nat->Option α} (h:ld f) {r q:α} (e:f n=some r) (e':f m=some q):r=q:=by
 rcases Nat.le_total n m with a|a
 ·have:=h.le a e;rw[e']at this;exact(aT this).symm
 ·have:=h.le a e';rw[e]at this;exact aT this
theorem bJ {α β:Type} {a b:Option α} {f g:α->Option β} {r:β} (h:a.bind f=some r) (h1:∀x,a=some x->b=some x) (h2:∀x q,f x=some q->g x=some q):b.bind g=some r:=by
 cases a with
 | none=>simp at h
 | some x=>rw[h1 x rfl];exact h2 x r h
theorem eF {β:Type} {c:Prop} [Decidable c] {a a' b b':Option β} {r:β} (h:(if c then a else b)=some r) (h1:a=some r->a'=some r) (h2:b=some r->b'=some r):(if c then a' else b')=some r:=by
 by_cases hc:c
 ·rw[ax hc]at h ⊢;exact h1 h
 ·rw[ap hc]at h ⊢;exact h2 h
theorem qQ {α:Type} {w:Tx} {s:PS} {k k':PS->Option (α×PS)} {r:α×PS} (h:inW w s k=some r) (h1:∀s q,k s=some q->k' s=some q):inW w s k'=some r:=by
 unfold inW at h ⊢;exact eF h id λh=>bJ h (λ_ e=>e) λ_ _ h=>bJ h (λ_ e=>h1 _ _ e) λ_ _ e=>e
structure CS where
 left:Nat
 uses:List Tx
 decl:List Tx
 there:List (Tx×Bool)
def bV (c:CS):Option CS:=if c.left=0 then none else some { c with left:=c.left-1 }
def qX (n:Tx) (c:CS):Option Bool:=c.there.lookup n
def lU (n:Tx) (p:Bool) (c:CS):Option CS:=if n∈c.decl\/200<=c.decl.length then none else some { c with decl:=n::c.decl,there:=(n,p)::c.there }
def km (fs:List Fun) (n:Tx):Option Fun:=fs.find? λf=>decide (f.name=n)
mutual
def gA (fs:List Fun):Ex->CS->Option (Bool×CS)
 | .num _,c=>(bV c).bind λc=>some (false,c)
 | .inp,c=>(bV c).bind λc=>some (false,c)
 | .name s,c=>(bV c).bind λc=>(qX s c).bind λp=>some (p,c)
 | .un t r,c=>(bV c).bind λc=>if t=rC\/t=g9 then(gA fs r c).bind λk=>if k.1=false then some (false,k.2)else none else none
 | .bin t l r,c=>(bV c).bind λc=>if binds t=0 then none else(gA fs l c).bind λa=>(gA fs r a.2).bind λb=>if a.1=false/\b.1=false then some (false,b.2)else none
 | .call s args,c=>(bV c).bind λc=>(km fs s).bind λg=>(rr fs args { c with uses:=c.uses++[s] }).bind λk=>if k.1=g.params.map (·.ptr)then some (g.ptr,k.2)else none
 | .cell l r,c=>(bV c).bind λc=>(gA fs l c).bind λa=>(gA fs r a.2).bind λb=>if a.1=true/\b.1=false then some (false,b.2)else none
 | .link l r,c=>(bV c).bind λc=>(gA fs l c).bind λa=>(gA fs r a.2).bind λb=>if a.1=true/\b.1=false then some (true,b.2)else none
 | .new l,c=>(bV c).bind λc=>(gA fs l c).bind λk=>if k.1=false then some (true,k.2)else none
def rr (fs:List Fun):List Ex->CS->Option (List Bool×CS)
 | [],c=>some ([],c)
 | x::xs,c=>(gA fs x c).bind λk=>(rr fs xs k.2).bind λl=>some (k.1::l.1,l.2)
end
def dQ (fs:List Fun) (x:Ex) (p:Bool) (c:CS):Option CS:=(gA fs x c).bind λk=>if k.1=p then some k.2 else none
mutual
def eQ (fs:List Fun) (fp:Bool):Sm->CS->Option CS
 | .var n p none,c=>(bV c).bind λc=>lU n p c
 | .var n p (some r),c=>(bV c).bind λc=>(dQ fs r p c).bind λc=>lU n p c
 | .set n r,c=>(bV c).bind λc=>(qX n c).bind λp=>dQ fs r p c
 | .cell l r,c=>(bV c).bind λc=>(gA fs l c).bind λk=>dQ fs r k.1 k.2
 | .iff r a b,c=>(bV c).bind λc=>(dQ fs r false c).bind λc=>(sA fs fp a c).bind λc1=>(sA fs fp b { c1 with there:=c.there }).bind λc2=>some { c2 with there:=c.there }
 | .whl r a,c=>(bV c).bind λc=>(dQ fs r false c).bind λc=>(sA fs fp a c).bind λc1=>some { c1 with there:=c.there }
 | .out r,c=>(bV c).bind λc=>dQ fs r false c
 | .free r,c=>(bV c).bind λc=>dQ fs r true c
 | .drain,c=>bV c
 | .ret none,c=>bV c
 | .ret (some r),c=>(bV c).bind λc=>dQ fs r fp c
 | .call r,c=>(bV c).bind λc=>(gA fs r c).bind λk=>some k.2
def sA (fs:List Fun) (fp:Bool):List Sm->CS->Option CS
 | [],c=>some c
 | x::xs,c=>(eQ fs fp x c).bind λc=>sA fs fp xs c
end
def gY (fs:List Fun) (fp:Bool) (l:List Sm) (c:CS):Option CS:=(sA fs fp l c).bind λc1=>some { c1 with there:=c.there }
def nH:List Par->CS->Option CS
 | [],c=>some c
 | p::ps,c=>(lU p.name p.ptr c).bind λc=>nH ps c
def rx (fs:List Fun) (f:Fun) (left:Nat):Option (Nat×List Tx):=
 (nH f.params ⟨left,[],[],[]⟩).bind λc=>(gY fs f.ptr f.body c).bind λc=>some (c.left,c.uses)
def fh (fs:List Fun):List Fun->Nat->Option (List (List Tx))
 | [],_=>some []
 | f::l,left=>(rx fs f left).bind λr=>(fh fs l r.1).bind λus=>some (r.2::us)
def fJ (fs:List Fun):Bool:=decide (fs.length<=200)&&decide ((fs.map (·.name)).Nodup)&&(match km fs [109,97,105,110]with|some f=>f.params.isEmpty&&!f.ptr|none=>false)
def j8 (us:List (Tx×List Tx)) (placed:List Tx):Option Nat:=us.findIdx? λu=>u.2.all (λg=>placed.contains g)&&!placed.contains u.1
def jc (us:List (Tx×List Tx)):Nat->List Tx->List Nat->List Nat
 | 0,_,out=>out
 | n+1,placed,out=>match j8 us placed with
  | none=>out
  | some i=>match us[i]? with
   | none=>out
   | some u=>jc us n (u.1::placed) (out++[i])
def eJ (fs:List Fun):Option (List Nat):=
 if fJ fs=true then(fh fs fs 65536).bind λus =>
  let l:=jc ((fs.map (·.name)).zip us) (fs.length+1) [] []
  if l.length<fs.length then none else some l
 else none
theorem ia:∀n,(∀c s r,cZ n c s=some r->cZ (n+1) c s=some r)/\(∀c x s r,ib n c x s=some r->ib (n+1) c x s=some r) /\
  (∀s r,gl n s=some r->gl (n+1) s=some r)/\(∀a b s r,eS n a b s=some r->eS (n+1) a b s=some r) /\
  (∀s r,fU n s=some r->fU (n+1) s=some r)/\(∀x s r,gT n x s=some r->gT (n+1) x s=some r) /\
  (∀s r,dN n s=some r->dN (n+1) s=some r)/\(∀s r,dG n s=some r->dG (n+1) s=some r) /\
  (∀b l s r,jT n b l s=some r->jT (n+1) b l s=some r):=by
 intro n
 induction n with
 | zero=>refine⟨?_,?_,?_,?_,?_,?_,?_,?_,?_⟩<;>intros<;>rename_i h<;>simp[cZ,ib,gl,eS,fU,gT,dN,dG,jT]at h
 | succ n ih =>
  obtain⟨d,i,j,f,o,g,k,p,m⟩:=ih;refine⟨λc s r h=>?_,λc x s r h=>?_,λs r h=>?_,λa b s r h=>?_,λs r h=>?_,λx s r h=>?_,λs r h=>?_,λs r h=>?_,λb l s r h=>?_⟩
  ·rw[cZ]at h ⊢
   exact bJ h (λ_ e=>j _ _ e) λ_ _ e=>i _ _ _ _ e
  ·rw[ib]at h ⊢
   exact eF h id λh=>bJ h (λ_ e=>d _ _ _ e) λ_ _ e=>i _ _ _ _ e
  ·rw[gl]at h ⊢
   exact eF h (λh=>bJ h (λ_ e=>qQ e λ_ _ e=>j _ _ e) λ_ _ e=>e) λh=>o _ _ h
  ·rw[eS]at h ⊢
   exact qQ h λ_ _ h=>bJ h (λ_ e=>d _ _ _ e) λ_ _ e=>e
  ·rw[fU]at h ⊢
   exact bJ h (λ_ e=>p _ _ e) λ_ _ e=>g _ _ _ e
  ·rw[gT]at h ⊢
   exact eF h (λh=>bJ h (λ_ e=>f _ _ _ _ e) λ_ _ e=>g _ _ _ e) λh=>eF h (λh=>bJ h (λ_ e=>k _ _ e) λ_ _ e=>g _ _ _ e) id
  ·rw[dN]at h ⊢
   exact eF h (λh=>f _ _ _ _ h) λh=>h
  ·rw[dG]at h ⊢
   refine eF h (λh=>bJ h (λ_ e=>f _ _ _ _ e) λ_ _ e=>e) λh=>eF h (λh=>h) λh=>bJ h (λ_ e=>k _ _ e) λ_ _ h=>?_;exact eF h (λh=>bJ h (λ_ e=>qQ e λ_ _ h=>bJ h (λ_ e=>m _ _ _ _ e) λ_ _ e=>e) λ_ _ e=>e) id
  ·rw[jT]at h ⊢
   exact eF h id λh=>bJ h (λ_ e=>e) λ_ _ h=>bJ h (λ_ e=>d _ _ _ e) λ_ _ e=>m _ _ _ _ e
theorem lJ (c:Int) (s:PS):ld λn=>cZ n c s:=λn r h=>(ia n).1 c s r h
theorem uN (c:Int) (x:Ex) (s:PS):ld λn=>ib n c x s:=λn r h=>(ia n).2.1 c x s r h
theorem CH (s:PS):ld λn=>gl n s:=λn r h=>(ia n).2.2.1 s r h
theorem wY (a b:Tx) (s:PS):ld λn=>eS n a b s:=λn r h=>(ia n).2.2.2.1 a b s r h
theorem CI (s:PS):ld λn=>fU n s:=λn r h=>(ia n).2.2.2.2.1 s r h
theorem rQ (x:Ex) (s:PS):ld λn=>gT n x s:=λn r h=>(ia n).2.2.2.2.2.1 x s r h
theorem qK (s:PS):ld λn=>dN n s:=λn r h=>(ia n).2.2.2.2.2.2.1 s r h
theorem Aw (s:PS):ld λn=>dG n s:=λn r h=>(ia n).2.2.2.2.2.2.2.1 s r h
theorem uO (b:Bool) (l:List Ex) (s:PS):ld λn=>jT n b l s:=λn r h=>(ia n).2.2.2.2.2.2.2.2 b l s r h
theorem jM {s:PS} {r:Ex×PS} (h:dy n s=some r):dy (n+1) s=some r:=by
 unfold dy at h ⊢;exact bJ h (λ_ e=>(ia n).1 _ _ _ e) λ_ _ e=>e
theorem kH:∀n,(∀s r,dc n s=some r->dc (n+1) s=some r)/\(∀l s r,dY n l s=some r->dY (n+1) l s=some r) /\
  (∀s r,dz n s=some r->dz (n+1) s=some r)/\(∀s r,ek n s=some r->ek (n+1) s=some r):=by
 intro n
 induction n with
 | zero=>refine⟨?_,?_,?_,?_⟩<;>intros<;>rename_i h<;>simp[dc,dY,dz,ek]at h
 | succ n ih =>
  obtain⟨a,b,c,d⟩:=ih;refine⟨λs r h=>?_,λl s r h=>?_,λs r h=>?_,λs r h=>?_⟩
  ·rw[dc]at h ⊢
   exact qQ h λ_ _ h=>bJ h (λ_ e=>b _ _ _ e) λ_ _ e=>e
  ·rw[dY]at h ⊢
   exact eF h id λh=>bJ h (λ_ e=>d _ _ e) λ_ _ e=>b _ _ _ e
  ·rw[dz]at h ⊢
   refine bJ h (λ_ e=>(ia n).1 _ _ _ e) λ_ _ h=>bJ h (λ_ e=>a _ _ e) λ_ _ h=>?_;exact eF h (λh=>eF h (λh=>bJ h (λ_ e=>c _ _ e) λ_ _ e=>e) λh=>bJ h (λ_ e=>a _ _ e) λ_ _ e=>e) id
  ·rw[ek]at h ⊢
   refine eF h (λh=>?_) λh=>?_
   ·refine eF h (λh=>bJ h (λ_ e=>e) λ_ _ h=>eF h (λh=>bJ h (λ_ e=>jM e) λ_ _ e=>e) id) λh=>?_
    refine eF h (λh=>c _ _ h) λh=>?_;refine eF h (λh=>bJ h (λ_ e=>(ia n).1 _ _ _ e) λ_ _ h=>bJ h (λ_ e=>a _ _ e) λ_ _ e=>e) λh=>?_;refine eF h (λh=>bJ h (λ_ e=>jM e) λ_ _ e=>e) λh=>?_;refine eF h (λh=>bJ h (λ_ e=>jM e) λ_ _ e=>e) λh=>?_;refine eF h id λh=>?_;exact eF h (λh=>eF h id λh=>bJ h (λ_ e=>jM e) λ_ _ e=>e) id
   ·refine bJ h (λ_ e=>(ia n).2.2.2.2.1 _ _ e) λq _ h=>eF h (λh=>?_) id
    split at h
    ·exact bJ h (λ_ e=>jM e) λ_ _ e=>e
    ·exact bJ h (λ_ e=>jM e) λ_ _ e=>e
    ·exact bJ h (λ_ e=>jM e) λ_ _ e=>e
    ·cases h
theorem Ax (s:PS):ld λn=>dc n s:=λn r h=>(kH n).1 s r h
theorem Au (l:List Sm) (s:PS):ld λn=>dY n l s:=λn r h=>(kH n).2.1 l s r h
theorem CG (s:PS):ld λn=>ek n s:=λn r h=>(kH n).2.2.2 s r h
theorem qz:∀n b l s r,fI n b l s=some r->fI (n+1) b l s=some r:=by
 intro n
 induction n with
 | zero=>intros;rename_i h;simp[fI]at h
 | succ n ih =>
  intro b l s r h;rw[fI]at h ⊢;exact eF h id λh=>bJ h (λ_ e=>e) λ_ _ h=>bJ h (λ_ e=>e) λ_ _ e=>ih _ _ _ _ e
theorem wZ (b:Bool) (l:List Par) (s:PS):ld λn=>fI n b l s:=λn r h=>qz n b l s r h
theorem qT {s:PS} {r:Fun×PS} (h:dl n s=some r):dl (n+1) s=some r:=by
 unfold dl at h ⊢;refine bJ h (λ_ e=>e) λ_ _ h=>bJ h (λ_ e=>e) λ_ _ h=>bJ h (λ_ e=>qQ e λ_ _ h=>bJ h (λ_ e=>qz _ _ _ _ _ e) λ_ _ e=>e) λ_ _ h=>?_;exact bJ h (λ_ e=>(kH n).1 _ _ e) λ_ _ e=>e
theorem sX (s:PS):ld λn=>dl n s:=λ_ _ h=>qT h
theorem Iy:∀n l s r,gr n l s=some r->gr (n+1) l s=some r:=by
 intro n
 induction n with
 | zero=>intros;rename_i h;simp[gr]at h
 | succ n ih =>
  intro l s r h;rw[gr]at h ⊢;exact eF h id λh=>bJ h (λ_ e=>qT e) λ_ _ e=>ih _ _ _ e
theorem uM (l:List Fun) (s:PS):ld λn=>gr n l s:=λn r h=>Iy n l s r h
structure Ins where
 op:Int
 a:Int
 b:Int
 c:Int
 m:Int
structure GS where
 words:List Int
 bad:Bool
 kept:Nat
 ends:List Nat
structure GE where
 base:Nat
 count:Nat
 names:Tx->Nat
 funcs:Tx->Option (Nat×Nat)
def em1 (g:GS) (i:Ins):GS:={ g with words:=g.words++[iS i.op i.a i.b i.c i.m],bad:=g.bad||decide (jh i.op i.a i.b i.c i.m≠0)||decide (4096<=g.words.length) }
def cL (l:List Ins) (g:GS):GS:=l.foldl em1 g
def nN (n:Int):Int:=if n%4096<2048 then n%4096 else n%4096-4096
def JK (n:Int):Int:=(if(n-nN n)%4294967296<2147483648 then(n-nN n)%4294967296 else(n-nN n)%4294967296-4294967296)/4096
def ed (reg n:Int) (g:GS):GS:=if JK n=0 then cL [⟨1,reg,0,0,nN n⟩] g else cL [⟨2,reg,0,0,JK n⟩,⟨16,reg,reg,0,nN n⟩] g
def qJ (what reg:Int) (at':Nat) (g:GS):GS:=if at'<=2047 then cL [⟨what,reg,14,0,at'⟩] g else cL [⟨32,9,14,9,0⟩,⟨what,reg,9,0,0⟩] (ed 9 ((at':Int)%4294967296) g)
def mq (reg:Int) (at':Nat):GS->GS:=qJ 23 reg at'
def fF (reg:Int) (at':Nat):GS->GS:=qJ 24 reg at'
def rq (n:Nat) (g:GS):GS:={ g with kept:=max g.kept (n+1) }
def GE.slot (E:GE) (n:Nat):Nat:=E.base+16*(1+E.count+n)
def pu (reg:Int):GS->GS:=cL [⟨41,reg,14,0,0⟩]
def dt (n:Int):GS->GS:=cL [⟨52,0,0,0,n⟩]
def oo:GS->GS:=cL [⟨15,3,3,0,0⟩]
def eI (what to frm by':Int) (g:GS):GS:=cL [⟨what,to,frm,6,0⟩] (ed 6 by' g)
def fg (reg:Int):GS->GS:=cL [⟨29,reg,0,0,1⟩]
def qm (at':Nat) (reg:Int) (to:Nat) (g:GS):GS:=if at'<g.words.length then{ g with words:=g.words.set at' (iS 29 reg 0 0 ((to:Int)-at')),bad:=g.bad||decide (jh 29 reg 0 0 ((to:Int)-at')≠0) }else g
def fG (at':Nat) (reg:Int) (g:GS):GS:=qm at' reg g.words.length g
def ce (skip reg:Int) (g:GS):GS:=fg 6 (cL [⟨skip,reg,0,0,2⟩] g)
def lj (E:GE) (n:Nat) (g:GS):GS:=fF 3 (E.slot n) (rq n g)
def mw (E:GE) (reg:Int) (n:Nat) (g:GS):GS:=mq reg (E.slot n) (rq n g)
def Gy:List (Tx×Int):=[([43],3),([45],4),([42],5),([47],6),([37],7),([38],8),([124],9),([94],10),([60,60],11),([62,62],12),([61,61],15),([33,61],15),([60],13),([62,61],13)]
def qu (t:Tx):Option Int:=Gy.lookup t
def rk (t:Tx) (g:GS):GS:=
 let g1:=match qu t with|some o=>cL [⟨o,3,4,3,0⟩] g|none=>cL [⟨13,3,3,4,0⟩] g
 if t=[33,61]\/t=[62,61]\/t=[60,61]then oo g1 else g1
def iD (E:GE) (base keep:Nat):Nat->Nat->GS->GS
 | 0,_,g=>g
 | n+1,i,g=>iD E base keep n (i+1) (fF 3 (base+16*(1+i)) (mw E 3 (keep+i) g))
mutual
def exG (E:GE):Ex->Nat->GS->GS
 | .num n,_,g=>ed 3 n g
 | .name s,_,g=>mq 3 (E.names s) g
 | .un t r,k,g=>if t=rC then oo (exG E r k g)else cL [⟨4,3,0,3,0⟩] (exG E r k g)
 | .bin t l r,k,g =>
  if t=[38,38]\/t=[124,124]then
   let g1:=oo (oo (exG E l k g))
   let g2:=ce (if t=[38,38]then 26 else 25) 3 g1
   fG (g1.words.length+1) 6 (oo (oo (exG E r k g2)))
  else rk t (mw E 4 k (exG E r (k+1) (lj E k (exG E l k g))))
 | .call s args,k,g =>
  let f:=(E.funcs s).getD (0,0)
  let g1:=iD E f.2 k args.length 0 (ip E args k g)
  cL [⟨31,3,10,0,0⟩] (qm g1.words.length 5 f.1 (fg 5 g1))
 | .cell l r,k,g=>cL [⟨48,6,3,0,0⟩,⟨26,6,0,0,2⟩,⟨53,0,0,0,0⟩] (cL [⟨32,4,4,3,0⟩,⟨23,3,4,0,0⟩] (eI 11 3 3 4 (mw E 4 k (exG E r (k+1) (lj E k (exG E l k g))))))
 | .link l r,k,g=>cL [⟨32,4,4,3,0⟩,⟨23,3,4,0,0⟩] (eI 11 3 3 4 (mw E 4 k (exG E r (k+1) (lj E k (exG E l k g)))))
 | .new l,k,g =>
  let g1:=eI 12 4 3 28 (exG E l k g)
  let g2:=cL [⟨47,4,10,0,0⟩] (dt 1 (eI 11 10 3 4 (ce 25 4 g1)))
  let g3:=pu 10 (fG (g1.words.length+1) 6 (ce 25 4 g2))
  cL [⟨31,3,10,0,0⟩] (fG (g2.words.length+1) 6 g3)
 | .inp,_,g=>cL [⟨31,3,10,0,0⟩] (dt 5 g)
def ip (E:GE):List Ex->Nat->GS->GS
 | [],_,g=>g
 | x::xs,k,g=>ip E xs (k+1) (lj E k (exG E x k g))
end
def cS (E:GE) (p:Bool):Option Ex->GS->GS
 | some x,g=>cL [⟨31,10,3,0,0⟩] (exG E x 0 g)
 | none,g=>if p=true then pu 10 g else ed 10 0 g
def kq:Ex->Ex
 | .cell a _=>a
 | .link a _=>a
 | _=>.inp
def kS:Ex->Ex
 | .cell _ b=>b
 | .link _ b=>b
 | _=>.inp
mutual
def stG (E:GE) (fp:Bool):Sm->GS->GS
 | .var n p none,g=>fF 3 (E.names n) (if p=true then pu 3 g else ed 3 0 g)
 | .var n _ (some r),g=>fF 3 (E.names n) (exG E r 0 g)
 | .set n r,g=>fF 3 (E.names n) (exG E r 0 g)
 | .cell l r,g=>cL [⟨32,4,4,7,0⟩,⟨24,3,4,0,0⟩] (eI 11 7 7 4 (mw E 7 1 (mw E 4 0 (exG E r 2 (lj E 1 (exG E (kS l) 1 (lj E 0 (exG E (kq l) 0 g))))))))
 | .iff r a b,g =>
  let g1:=exG E r 0 g
  let g2:=mi E fp a (ce 26 3 g1)
  let g3:=mi E fp b (fG (g1.words.length+1) 6 (fg 6 g2))
  fG g2.words.length 6 g3
 | .whl r a,g =>
  let g1:=exG E r 0 g
  let g2:=mi E fp a (ce 26 3 g1)
  fG (g1.words.length+1) 6 (qm g2.words.length 6 g.words.length (fg 6 g2))
 | .out r,g=>dt 4 (cS E false (some r) g)
 | .free r,g=>dt 2 (cS E false (some r) g)
 | .drain,g=>dt 3 g
 | .ret r,g=>let g1:=cS E fp r g;fg 6 { g1 with ends:=g1.ends++[g1.words.length] }
 | .call r,g=>exG E r 0 g
def mi (E:GE) (fp:Bool):List Sm->GS->GS
 | [],g=>g
 | x::xs,g=>mi E fp xs (stG E fp x g)
end
mutual
def oA:Sm->Nat->List Par×Nat
 | .var n p _,k=>([⟨n,p⟩],k)
 | .iff _ a b,k=>let r:=dH a k;let q:=dH b r.2;(r.1++q.1,q.2)
 | .whl _ a,k=>dH a k
 | _,k=>([],k)
def dH:List Sm->Nat->List Par×Nat
 | [],k=>([],k)
 | _::_,0=>([],0)
 | x::xs,k+1=>let r:=oA x k;let q:=dH xs r.2;(r.1++q.1,q.2)
end
def bQ (f:Fun):List Par:=f.params++(dH f.body 65536).1
def cU (base:Nat):List Par->Nat->(Tx->Nat)->Tx->Nat
 | [],_,L=>L
 | p::ps,i,L=>cU base ps (i+1) λt=>if t=p.name then base+16*(1+i)else L t
structure GP where
 words:List Int
 bad:Bool
 bytes:Nat
 funcs:Tx->Option (Nat×Nat)
def dp (f:Fun) (s:GP):GE:=
 ⟨s.bytes,(bQ f).length,cU s.bytes (bQ f) 0 λ_=>0,λt=>if t=f.name then some (s.words.length,s.bytes)else s.funcs t⟩
def dj (f:Fun) (s:GP):GP:=
 let E:=dp f s
 let g1:=cS E f.ptr none (mi E f.ptr f.body (fF 5 s.bytes ⟨s.words,s.bad,0,[]⟩))
 let g2:=g1.ends.foldl (λg a=>fG a 6 g) g1
 let g3:=cL [⟨30,6,5,0,0⟩] (mq 5 s.bytes g2)
 ⟨g3.words,g3.bad,s.bytes+16*(1+E.count+g3.kept),E.funcs⟩
def mo (fs:List Fun) (ord:List Nat):Option (List Int×Nat):=
 let g0:=dt 0 (fg 5 ⟨[],false,0,[]⟩)
 let s:=ord.foldl (λs k=>match fs[k]? with|some f=>dj f s|none=>s) (⟨g0.words,g0.bad,0,λ_=>none⟩:GP)
 let g:=qm 0 5 ((s.funcs [109,97,105,110]).getD (0,0)).1 ⟨s.words,s.bad,0,[]⟩
 let bytes:=max (s.bytes+255) 256/256*256
 if g.bad=true\/4096<g.words.length\/4096<bytes then none else some (g.words,bytes)
theorem bind_some {α β:Type} {o:Option α} {f:α->Option β} {r:β} (h:o.bind f=some r):∃a,o=some a/\f a=some r:=by
 cases o with
 | none=>cases h
 | some a=>exact⟨a,rfl,h⟩
def vX (c c':CS):Prop:=c'.decl=c.decl/\c'.there=c.there
theorem vX.trans {a b c:CS} (h:vX a b) (k:vX b c):vX a c:=⟨k.1.trans h.1,k.2.trans h.2⟩
theorem cJ {c c':CS} (h:bV c=some c'):vX c c':=by
 unfold bV at h;split at h
 ·cases h
 ·cases h;exact⟨rfl,rfl⟩
mutual
theorem iU (fs:List Fun):∀(x:Ex) (c:CS) (p:Bool) (c':CS),gA fs x c=some (p,c')->vX c c'
 | .num m,c,p,c',h=>by
  rw[gA]at h;obtain⟨c1,e,d⟩:=bind_some h;cases d;exact cJ e
 | .inp,c,p,c',h=>by
  rw[gA]at h;obtain⟨c1,e,d⟩:=bind_some h;cases d;exact cJ e
 | .name s,c,p,c',h=>by
  rw[gA]at h;obtain⟨c1,e,d⟩:=bind_some h;obtain⟨q,_,f⟩:=bind_some d;cases f;exact cJ e
 | .un t r,c,p,c',h=>by
  rw[gA]at h;obtain⟨c1,e,d⟩:=bind_some h;split at d
  ·obtain⟨k,j,f⟩:=bind_some d
   split at f
   ·cases f;exact(cJ e).trans (iU fs r c1 k.1 k.2 j)
   ·cases f
  ·cases d
 | .bin t l r,c,p,c',h=>by
  rw[gA]at h;obtain⟨c1,e,d⟩:=bind_some h;split at d
  ·cases d
  ·obtain⟨a,j,f⟩:=bind_some d
   obtain⟨b,n,i⟩:=bind_some f;split at i
   ·cases i;exact((cJ e).trans (iU fs l c1 a.1 a.2 j)).trans (iU fs r a.2 b.1 b.2 n)
   ·cases i
 | .call s args,c,p,c',h=>by
  rw[gA]at h;obtain⟨c1,e,d⟩:=bind_some h;obtain⟨g,_,f⟩:=bind_some d;obtain⟨k,n,i⟩:=bind_some f;split at i
  ·cases i
   have o:=zt fs args { c1 with uses:=c1.uses++[s] } k.1 k.2 n;exact(cJ e).trans ⟨o.1,o.2⟩
  ·cases i
 | .cell l r,c,p,c',h=>by
  rw[gA]at h;obtain⟨c1,e,d⟩:=bind_some h;obtain⟨a,j,f⟩:=bind_some d;obtain⟨b,n,i⟩:=bind_some f;split at i
  ·cases i;exact((cJ e).trans (iU fs l c1 a.1 a.2 j)).trans (iU fs r a.2 b.1 b.2 n)
  ·cases i
 | .link l r,c,p,c',h=>by
  rw[gA]at h;obtain⟨c1,e,d⟩:=bind_some h;obtain⟨a,j,f⟩:=bind_some d;obtain⟨b,n,i⟩:=bind_some f;split at i
  ·cases i;exact((cJ e).trans (iU fs l c1 a.1 a.2 j)).trans (iU fs r a.2 b.1 b.2 n)
  ·cases i
 | .new l,c,p,c',h=>by
  rw[gA]at h;obtain⟨c1,e,d⟩:=bind_some h;obtain⟨k,j,f⟩:=bind_some d;split at f
  ·cases f;exact(cJ e).trans (iU fs l c1 k.1 k.2 j)
  ·cases f
theorem zt (fs:List Fun):∀(xs:List Ex) (c:CS) (ps:List Bool) (c':CS),rr fs xs c=some (ps,c')->vX c c'
 | [],c,ps,c',h=>by rw[rr]at h;cases h;exact⟨rfl,rfl⟩
 | x::xs,c,ps,c',h=>by
  rw[rr]at h;obtain⟨k,a,b⟩:=bind_some h;obtain⟨l,d,e⟩:=bind_some b;cases e;exact(iU fs x c k.1 k.2 a).trans (zt fs xs k.2 l.1 l.2 d)
end
theorem iP {fs:List Fun} {x:Ex} {c c':CS} (h:dQ fs x p c=some c'):vX c c':=by
 unfold dQ at h;obtain⟨k,b,a⟩:=bind_some h;split at a
 ·cases a;exact iU fs x c k.1 k.2 b
 ·cases a
theorem vD {n:Tx} {c c':CS} (h:lU n p c=some c'):c.decl.length<=c'.decl.length:=by
 unfold lU at h;split at h
 ·cases h
 ·cases h;simp
mutual
theorem BH (fs:List Fun) (fp:Bool):∀(x:Sm) (c c':CS),eQ fs fp x c=some c'->c.decl.length<=c'.decl.length
 | .var n p none,c,c',h=>by
  rw[eQ]at h;obtain⟨c1,d,e⟩:=bind_some h;have:=vD e;rw[(cJ d).1]at this;exact this
 | .var n p (some r),c,c',h=>by
  rw[eQ]at h;obtain⟨c1,d,e⟩:=bind_some h;obtain⟨c2,g,f⟩:=bind_some e;have:=vD f;rw[(iP g).1,(cJ d).1]at this;exact this
 | .set n r,c,c',h=>by
  rw[eQ]at h;obtain⟨c1,d,e⟩:=bind_some h;obtain⟨p,_,f⟩:=bind_some e;rw[(iP f).1,(cJ d).1];exact ag _
 | .cell l r,c,c',h=>by
  rw[eQ]at h;obtain⟨c1,d,e⟩:=bind_some h;obtain⟨k,g,f⟩:=bind_some e;rw[(iP f).1,(iU fs l c1 k.1 k.2 g).1,(cJ d).1];exact ag _
 | .iff r a b,c,c',h=>by
  rw[eQ]at h;obtain⟨c1,d,e⟩:=bind_some h;obtain⟨c2,g,f⟩:=bind_some e;obtain⟨j,m,o⟩:=bind_some f;obtain⟨q,t,u⟩:=bind_some o;cases u;have i:=pH fs fp a c2 j m;have s:=pH fs fp b _ q t;rw[(iP g).1,(cJ d).1]at i;exact ay i s
 | .whl r a,c,c',h=>by
  rw[eQ]at h;obtain⟨c1,d,e⟩:=bind_some h;obtain⟨c2,g,f⟩:=bind_some e;obtain⟨j,m,o⟩:=bind_some f;cases o;have i:=pH fs fp a c2 j m;rw[(iP g).1,(cJ d).1]at i;exact i
 | .out r,c,c',h=>by
  rw[eQ]at h;obtain⟨c1,d,e⟩:=bind_some h;rw[(iP e).1,(cJ d).1];exact ag _
 | .free r,c,c',h=>by
  rw[eQ]at h;obtain⟨c1,d,e⟩:=bind_some h;rw[(iP e).1,(cJ d).1];exact ag _
 | .drain,c,c',h=>by
  rw[eQ]at h;rw[(cJ h).1];exact ag _
 | .ret none,c,c',h=>by
  rw[eQ]at h;rw[(cJ h).1];exact ag _
 | .ret (some r),c,c',h=>by
  rw[eQ]at h;obtain⟨c1,d,e⟩:=bind_some h;rw[(iP e).1,(cJ d).1];exact ag _
 | .call r,c,c',h=>by
  rw[eQ]at h;obtain⟨c1,d,e⟩:=bind_some h;obtain⟨k,g,f⟩:=bind_some e;cases f;rw[(iU fs r c1 k.1 k.2 g).1,(cJ d).1];exact ag _
theorem pH (fs:List Fun) (fp:Bool):∀(l:List Sm) (c c':CS),sA fs fp l c=some c'->c.decl.length<=c'.decl.length
 | [],c,c',h=>by rw[sA]at h;cases h;exact ag _
 | x::xs,c,c',h=>by
  rw[sA]at h;obtain⟨c1,a,b⟩:=bind_some h;exact ay (BH fs fp x c c1 a) (pH fs fp xs c1 c' b)
end
mutual
def cN:Ex->Nat
 | .num _=>1
 | .name _=>1
 | .un _ r=>cN r+1
 | .bin _ l r=>cN l+cN r+1
 | .call _ args=>gZ args+1
 | .cell l r=>cN l+cN r+1
 | .link l r=>cN l+cN r+1
 | .new l=>cN l+1
 | .inp=>1
def gZ:List Ex->Nat
 | []=>0
 | x::xs=>cN x+gZ xs
end
mutual
def bn:Ex->List Tx
 | .num _=>[]
 | .name _=>[]
 | .un _ r=>bn r
 | .bin _ l r=>bn l++bn r
 | .call s args=>s::iL args
 | .cell l r=>bn l++bn r
 | .link l r=>bn l++bn r
 | .new l=>bn l
 | .inp=>[]
def iL:List Ex->List Tx
 | []=>[]
 | x::xs=>bn x++iL xs
end
def oSz:Option Ex->Nat
 | some x=>cN x
 | none=>0
def qC:Option Ex->List Tx
 | some x=>bn x
 | none=>[]
mutual
def cP:Sm->Nat
 | .var _ _ r=>oSz r+1
 | .set _ r=>cN r+1
 | .cell l r=>cN l+cN r+1
 | .iff r a b=>cN r+bL a+bL b+1
 | .whl r a=>cN r+bL a+1
 | .out r=>cN r+1
 | .free r=>cN r+1
 | .drain=>1
 | .ret r=>oSz r+1
 | .call r=>cN r+1
def bL:List Sm->Nat
 | []=>0
 | x::xs=>cP x+bL xs
end
mutual
def bY:Sm->List Tx
 | .var _ _ r=>qC r
 | .set _ r=>bn r
 | .cell l r=>bn l++bn r
 | .iff r a b=>bn r++cW a++cW b
 | .whl r a=>bn r++cW a
 | .out r=>bn r
 | .free r=>bn r
 | .drain=>[]
 | .ret r=>qC r
 | .call r=>bn r
def cW:List Sm->List Tx
 | []=>[]
 | x::xs=>bY x++cW xs
end
theorem tc:∀xs:List Ex,xs.length<=gZ xs
 | []=>ag _
 | x::xs=>by
  have h:=tc xs;have:1<=cN x:=by cases x<;>(rw[cN];omega)
  rw[gZ,aC];omega
def CU (c:CS) (n:Nat) (l:List Tx) (c':CS):Prop:=c'.left+n=c.left/\c'.uses=c.uses++l
theorem CU.trans {a b c:CS} {l k:List Tx} (h:CU a n l b) (h2:CU b m k c):CU a (n+m) (l++k) c:=⟨by have:=h.1;have:=h2.1;omega,by rw[h2.2,h.2,aF]⟩
theorem CU.cast {a b:CS} {l k:List Tx} (h:CU a n l b) (e:n=m) (e2:l=k):CU a m k b:=by subst e e2;exact h
theorem eH {c c':CS} (h:bV c=some c'):CU c 1 [] c':=by
 unfold bV at h;split at h
 ·cases h
 ·cases h;exact⟨by show c.left-1+1=c.left;omega,(bo _).symm⟩
mutual
theorem pw (fs:List Fun):∀(x:Ex) (c:CS) (p:Bool) (c':CS),gA fs x c=some (p,c')->CU c (cN x) (bn x) c'/\∀s∈bn x,(km fs s).isSome
 | .num m,c,p,c',h=>by
  rw[gA]at h;obtain⟨c1,e,d⟩:=bind_some h;cases d;exact⟨eH e,λs hs=>by cases hs⟩
 | .inp,c,p,c',h=>by
  rw[gA]at h;obtain⟨c1,e,d⟩:=bind_some h;cases d;exact⟨eH e,λs hs=>by cases hs⟩
 | .name s,c,p,c',h=>by
  rw[gA]at h;obtain⟨c1,e,d⟩:=bind_some h;obtain⟨q,_,f⟩:=bind_some d;cases f;exact⟨eH e,λs hs=>by cases hs⟩
 | .un t r,c,p,c',h=>by
  rw[gA]at h;obtain⟨c1,e,d⟩:=bind_some h;split at d
  ·obtain⟨k,o,f⟩:=bind_some d
   split at f
   ·cases f
    obtain⟨j,n⟩:=pw fs r c1 k.1 k.2 o;exact⟨((eH e).trans j).cast (by rw[cN];omega) (by rw[bn];rfl),by rw[bn];exact n⟩
   ·cases f
  ·cases d
 | .bin t l r,c,p,c',h=>by
  rw[gA]at h;obtain⟨c1,e,d⟩:=bind_some h;split at d
  ·cases d
  ·obtain⟨a,o,f⟩:=bind_some d
   obtain⟨b,u,i⟩:=bind_some f;split at i
   ·cases i
    obtain⟨j,n⟩:=pw fs l c1 a.1 a.2 o;obtain⟨v,w⟩:=pw fs r a.2 b.1 b.2 u;exact⟨(((eH e).trans j).trans v).cast (by rw[cN];omega) (by rw[bn];rfl),by rw[bn];exactλs hs=>(aU.1 hs).elim (n s) (w s)⟩
   ·cases i
 | .call s args,c,p,c',h=>by
  rw[gA]at h;obtain⟨c1,e,d⟩:=bind_some h;obtain⟨g,B,f⟩:=bind_some d;obtain⟨k,u,i⟩:=bind_some f;split at i
  ·cases i
   obtain⟨j,n⟩:=GU fs args { c1 with uses:=c1.uses++[s] } k.1 k.2 u;have A:=eH e;refine⟨⟨?_,?_⟩,?_⟩
   ·have z:k.2.left+gZ args=c1.left:=j.1
    have C:=A.1;rw[cN];omega
   ·have z:k.2.uses=(c1.uses++[s])++iL args:=j.2
    rw[z,A.2,bn];simp
   ·rw[bn]
    intro t y;rcases aR.1 y with rfl|y
    ·rw[B];rfl
    ·exact n t y
  ·cases i
 | .cell l r,c,p,c',h=>by
  rw[gA]at h;obtain⟨c1,e,d⟩:=bind_some h;obtain⟨a,o,f⟩:=bind_some d;obtain⟨b,u,i⟩:=bind_some f;split at i
  ·cases i
   obtain⟨j,n⟩:=pw fs l c1 a.1 a.2 o;obtain⟨v,w⟩:=pw fs r a.2 b.1 b.2 u;exact⟨(((eH e).trans j).trans v).cast (by rw[cN];omega) (by rw[bn];rfl),by rw[bn];exactλs hs=>(aU.1 hs).elim (n s) (w s)⟩
  ·cases i
 | .link l r,c,p,c',h=>by
  rw[gA]at h;obtain⟨c1,e,d⟩:=bind_some h;obtain⟨a,o,f⟩:=bind_some d;obtain⟨b,u,i⟩:=bind_some f;split at i
  ·cases i
   obtain⟨j,n⟩:=pw fs l c1 a.1 a.2 o;obtain⟨v,w⟩:=pw fs r a.2 b.1 b.2 u;exact⟨(((eH e).trans j).trans v).cast (by rw[cN];omega) (by rw[bn];rfl),by rw[bn];exactλs hs=>(aU.1 hs).elim (n s) (w s)⟩
  ·cases i
 | .new l,c,p,c',h=>by
  rw[gA]at h;obtain⟨c1,e,d⟩:=bind_some h;obtain⟨k,o,f⟩:=bind_some d;split at f
  ·cases f
   obtain⟨j,n⟩:=pw fs l c1 k.1 k.2 o;exact⟨((eH e).trans j).cast (by rw[cN];omega) (by rw[bn];rfl),by rw[bn];exact n⟩
  ·cases f
theorem GU (fs:List Fun):∀(xs:List Ex) (c:CS) (ps:List Bool) (c':CS),rr fs xs c=some (ps,c')->CU c (gZ xs) (iL xs) c'/\∀s∈iL xs,(km fs s).isSome
 | [],c,ps,c',h=>by rw[rr]at h;cases h;exact⟨⟨rfl,(bo _).symm⟩,λs hs=>by cases hs⟩
 | x::xs,c,ps,c',h=>by
  rw[rr]at h;obtain⟨k,a,b⟩:=bind_some h;obtain⟨l,d,e⟩:=bind_some b;cases e;obtain⟨f,g⟩:=pw fs x c k.1 k.2 a;obtain⟨i,j⟩:=GU fs xs k.2 l.1 l.2 d;exact⟨(f.trans i).cast (by rw[gZ]) (by rw[iL]),by rw[iL];exactλs hs=>(aU.1 hs).elim (g s) (j s)⟩
end
theorem lL {fs:List Fun} {x:Ex} {c c':CS} (h:dQ fs x p c=some c'):CU c (cN x) (bn x) c'/\∀s∈bn x,(km fs s).isSome:=by
 unfold dQ at h;obtain⟨k,b,a⟩:=bind_some h;split at a
 ·cases a;exact pw fs x c k.1 k.2 b
 ·cases a
theorem xQ {n:Tx} {c c':CS} (h:lU n p c=some c'):CU c 0 [] c':=by
 unfold lU at h;split at h
 ·cases h
 ·cases h;exact⟨rfl,(bo _).symm⟩
mutual
theorem LL (fs:List Fun) (fp:Bool):∀(x:Sm) (c c':CS),eQ fs fp x c=some c'->CU c (cP x) (bY x) c'/\∀s∈bY x,(km fs s).isSome
 | .var n p none,c,c',h=>by
  rw[eQ]at h;obtain⟨c1,d,e⟩:=bind_some h;exact⟨((eH d).trans (xQ e)).cast (by rw[cP];rfl) (by rw[bY];rfl),by rw[bY];exactλs hs=>by cases hs⟩
 | .var n p (some r),c,c',h=>by
  rw[eQ]at h;obtain⟨c1,d,e⟩:=bind_some h;obtain⟨c2,j,i⟩:=bind_some e;obtain⟨f,g⟩:=lL j;exact⟨(((eH d).trans f).trans (xQ i)).cast (by rw[cP,oSz];omega) (by rw[bY,qC];simp),by rw[bY];exact g⟩
 | .set n r,c,c',h=>by
  rw[eQ]at h;obtain⟨c1,d,e⟩:=bind_some h;obtain⟨p,_,i⟩:=bind_some e;obtain⟨f,g⟩:=lL i;exact⟨((eH d).trans f).cast (by rw[cP];omega) (by rw[bY];simp),by rw[bY];exact g⟩
 | .cell l r,c,c',h=>by
  rw[eQ]at h;obtain⟨c1,d,e⟩:=bind_some h;obtain⟨k,j,i⟩:=bind_some e;obtain⟨f,g⟩:=pw fs l c1 k.1 k.2 j;obtain⟨m,o⟩:=lL i;exact⟨(((eH d).trans f).trans m).cast (by rw[cP];omega) (by rw[bY];simp),by rw[bY];exactλs hs=>(aU.1 hs).elim (g s) (o s)⟩
 | .iff r a b,c,c',h=>by
  rw[eQ]at h;obtain⟨c1,d,e⟩:=bind_some h;obtain⟨c2,j,i⟩:=bind_some e;obtain⟨q,t,u⟩:=bind_some i;obtain⟨w,y,z⟩:=bind_some u;cases z;obtain⟨f,g⟩:=lL j;obtain⟨m,o⟩:=uk fs fp a c2 q t;obtain⟨A,B⟩:=uk fs fp b _ w y;have v:CU q (bL b) (cW b) w:=A;exact⟨((((eH d).trans f).trans m).trans v).cast (by rw[cP];omega) (by rw[bY];simp),by rw[bY];exactλs hs=>(aU.1 hs).elim (λhs=>(aU.1 hs).elim (g s) (o s)) (B s)⟩
 | .whl r a,c,c',h=>by
  rw[eQ]at h;obtain⟨c1,d,e⟩:=bind_some h;obtain⟨c2,j,i⟩:=bind_some e;obtain⟨q,t,u⟩:=bind_some i;cases u;obtain⟨f,g⟩:=lL j;obtain⟨m,o⟩:=uk fs fp a c2 q t;exact⟨(((eH d).trans f).trans m).cast (by rw[cP];omega) (by rw[bY];simp),by rw[bY];exactλs hs=>(aU.1 hs).elim (g s) (o s)⟩
 | .out r,c,c',h=>by
  rw[eQ]at h;obtain⟨c1,d,e⟩:=bind_some h;obtain⟨f,g⟩:=lL e;exact⟨((eH d).trans f).cast (by rw[cP];omega) (by rw[bY];simp),by rw[bY];exact g⟩
 | .free r,c,c',h=>by
  rw[eQ]at h;obtain⟨c1,d,e⟩:=bind_some h;obtain⟨f,g⟩:=lL e;exact⟨((eH d).trans f).cast (by rw[cP];omega) (by rw[bY];simp),by rw[bY];exact g⟩
 | .drain,c,c',h=>by
  rw[eQ]at h;exact⟨(eH h).cast (by rw[cP]) (by rw[bY]),by rw[bY];exactλs hs=>by cases hs⟩
 | .ret none,c,c',h=>by
  rw[eQ]at h;exact⟨(eH h).cast (by rw[cP];rfl) (by rw[bY];rfl),by rw[bY];exactλs hs=>by cases hs⟩
 | .ret (some r),c,c',h=>by
  rw[eQ]at h;obtain⟨c1,d,e⟩:=bind_some h;obtain⟨f,g⟩:=lL e;exact⟨((eH d).trans f).cast (by rw[cP,oSz];omega) (by rw[bY,qC];simp),by rw[bY];exact g⟩
 | .call r,c,c',h=>by
  rw[eQ]at h;obtain⟨c1,d,e⟩:=bind_some h;obtain⟨k,j,i⟩:=bind_some e;cases i;obtain⟨f,g⟩:=pw fs r c1 k.1 k.2 j;exact⟨((eH d).trans f).cast (by rw[cP];omega) (by rw[bY];simp),by rw[bY];exact g⟩
theorem uk (fs:List Fun) (fp:Bool):∀(l:List Sm) (c c':CS),sA fs fp l c=some c'->CU c (bL l) (cW l) c'/\∀s∈cW l,(km fs s).isSome
 | [],c,c',h=>by rw[sA]at h;cases h;exact⟨⟨rfl,(bo _).symm⟩,λs hs=>by cases hs⟩
 | x::xs,c,c',h=>by
  rw[sA]at h;obtain⟨c1,a,b⟩:=bind_some h;obtain⟨d,e⟩:=LL fs fp x c c1 a;obtain⟨f,g⟩:=uk fs fp xs c1 c' b;exact⟨(d.trans f).cast (by rw[bL]) (by rw[cW]),by rw[cW];exactλs hs=>(aU.1 hs).elim (e s) (g s)⟩
end
theorem Cn:∀(ps:List Par) (c c':CS),nH ps c=some c'->CU c 0 [] c'/\c.decl.length+ps.length=c'.decl.length/\(c.decl.length<=200->c'.decl.length<=200)
 | [],c,c',h=>by rw[nH]at h;cases h;exact⟨⟨rfl,(bo _).symm⟩,rfl,id⟩
 | p::ps,c,c',h=>by
  rw[nH]at h;obtain⟨c1,a,b⟩:=bind_some h;obtain⟨d,g,f⟩:=Cn ps c1 c' b;have hd:=xQ a;have e:c1.decl.length=c.decl.length+1/\c.decl.length<200:=by
   unfold lU at a;split at a
   ·cases a
   ·rename_i hn
    cases a;refine⟨rfl,?_⟩;rcases gG c.decl.length 200 with q|q
    ·exact q
    ·exact absurd (.inr q) hn
  exact⟨(hd.trans d).cast rfl rfl,by rw[aC];omega,λh=>f (by omega)⟩
theorem DN {fs:List Fun} {f:Fun} {us:List Tx} (h:rx fs f n=some (m,us)):m+bL f.body=n/\us=cW f.body/\(∀s∈us,(km fs s).isSome)/\f.params.length<=200:=by
 unfold rx at h;obtain⟨c,j,k⟩:=bind_some h;obtain⟨c2,d,l⟩:=bind_some k;unfold gY at d;obtain⟨a,o,p⟩:=bind_some d;cases p;cases l;obtain⟨e,q,r⟩:=Cn _ _ _ j;obtain⟨g,t⟩:=uk _ _ _ _ _ o;have u:c.left=n:=e.1;have i:c.uses=[]:=e.2;have v:a.left+bL f.body=c.left:=g.1;have b:a.uses=c.uses++cW f.body:=g.2;rw[i,bh]at b;have w:0+f.params.length=c.decl.length:=q;have x:c.decl.length<=200:=r (by show 0<=200;omega);exact⟨by show a.left+_=_;omega,b,by show∀s∈a.uses,_;rw[b];exact t,by omega⟩
def fe (s:Tx):Prop:=s.length<=32/\(∀u∈s,dL u=2\/dL u=3)/\(∃u r,s=u::r/\dL u=2)/\jx.contains s=false
structure TokV (t:Tok):Prop where
 len:t.text.length<=4294967296
 num:t.kind=2->tY t.text<=4294967295
 name:t.kind=1->fe t.text
def lvl:Ex->Int
 | .un _ _=>7
 | .bin t _ _=>binds t
 | _=>8
def up (x:Ex) (c:Int) (n:Nat):Nat:=if lvl x<c then n+1 else n
def gh:Ex->Bool
 | .num _=>true
 | .name _=>true
 | _=>false
mutual
def gC:Ex->Nat
 | .num _=>0
 | .name _=>0
 | .un _ r=>1+up r 7 (gC r)
 | .bin t l r=>max (up l (binds t) (gC l)) (up r (binds t+1) (gC r))
 | .call _ args=>1+vB args
 | .cell l r=>max (up l 8 (gC l)) (1+gC r)
 | .link l r=>max (up l 8 (gC l)) (if gh r=true then 0 else 1+gC r)
 | .new l=>1+gC l
 | .inp=>1
def vB:List Ex->Nat
 | []=>0
 | x::xs=>max (gC x) (vB xs)
end
def lc (x:Ex) (c:Int):Nat:=up x c (gC x)
mutual
def ExP:Ex->Prop
 | .num m=>m<=4294967295
 | .name s=>fe s
 | .un t r=>(t=rC\/t=g9)/\ExP r
 | .bin t l r=>binds t≠0/\ExP l/\ExP r
 | .call s args=>fe s/\args.length<=1000000/\om args
 | .cell l r=>ExP l/\ExP r
 | .link l r=>ExP l/\ExP r
 | .new l=>ExP l
 | .inp=>True
def om:List Ex->Prop
 | []=>True
 | x::xs=>ExP x/\om xs
end
theorem kT (t:Tx):0<=binds t/\binds t<=6:=by
 unfold binds;cases h:iQ.find? λr=>decide (r.1=t)with
 | none=>simp
 | some r =>
  have a:=dR h;have:∀r∈iQ,0<=r.2/\r.2<=6:=by decide
  exact this r a
theorem gU {x:Ex} (h:ExP x):1<=lvl x:=by
 cases x with
 | bin t l r=>unfold ExP at h;have:=kT t;show 1<=binds t;omega
 | un t r=>show(1:Int)<=7;omega
 | _=>show(1:Int)<=8;omega
theorem kQ {x:Ex} (h:ExP x):lc x 1=gC x:=by unfold lc up;rw[ap (by have:=gU h;omega)]
theorem jO {x:Ex} {c:Int} (h:c<=lvl x):lc x c=gC x:=by unfold lc up;rw[ap (by omega)]
theorem Js (x:Ex) (c:Int):lc x c<=gC x+1/\gC x<=lc x c:=by unfold lc up;split<;>omega
structure Ws (s:PS):Prop where
 len:s.ts.length<=1000000
 tok:∀t∈s.ts,TokV t
 ne:s.ts≠[]
 last:∀t,s.ts.getLast?=some t->t.kind=5
 deep:s.d<=64
structure Gone (s s':PS):Prop where
 ws:Ws s'
 d:s'.d=s.d
 lt:s'.ts.length+1<=s.ts.length
structure GoneE (s s':PS):Prop where
 ws:Ws s'
 d:s'.d=s.d
 le:s'.ts.length<=s.ts.length
theorem Gone.e {s s':PS} (h:Gone s s'):GoneE s s':=⟨h.ws,h.d,by have:=h.lt;omega⟩
theorem GoneE.refl {s:PS} (h:Ws s):GoneE s s:=⟨h,rfl,ag _⟩
theorem Gone.then {a b c:PS} (h:Gone a b) (k:GoneE b c):Gone a c:=⟨k.ws,k.d.trans h.d,by have:=h.lt;have:=k.le;omega⟩
theorem GoneE.then {a b c:PS} (h:GoneE a b) (k:Gone b c):Gone a c:=⟨k.ws,k.d.trans h.d,by have:=k.lt;have:=h.le;omega⟩
theorem GoneE.trans {a b c:PS} (h:GoneE a b) (k:GoneE b c):GoneE a c:=⟨k.ws,k.d.trans h.d,by have:=k.le;have:=h.le;omega⟩
theorem Db {s:PS} (h:s.ts≠[]):hd s∈s.ts:=by
 unfold hd;cases hs:s.ts with
 | nil=>exact absurd hs h
 | cons a l=>exact aL ..
theorem Ws.step {s:PS} (h:Ws s) (hk:(hd s).kind≠5):Gone s (aS s):=by
 obtain⟨f,d⟩:=s
 match f,h,hk with
 | [],h,_=>exact absurd rfl h.ne
 | [a],h,hk=>exact absurd (h.last a rfl) hk
 | a::b::l,h,hk =>
  have e:aS ⟨a::b::l,d⟩=⟨b::l,d⟩:=by unfold aS;rw[ax (by show 1<(a::b::l).length;simp)];rfl
  rw[e];have c:=h.len;exact⟨⟨by show(b::l).length<=_;simp at c ⊢;omega,λt ht=>h.tok t (aP _ ht),by simp,λt ht=>h.last t (by show(a::b::l).getLast?=_;rw[List.getLast?_cons_cons];exact ht),h.deep⟩,rfl,by simp⟩
theorem cK {w:Tx} {s:PS} (h:isW w s=true):(hd s).kind≠5/\(hd s).text=w:=by
 unfold isW at h;simp only[bH,MA,bw]at h;exact⟨by rcases h.1 with h|h<;>omega,h.2⟩
theorem cr {w:Tx} {s s':PS} (h:Ws s) (hm:bP w s=some s'):Gone s s'/\isW w s=true:=by
 unfold bP at hm;split at hm
 ·rename_i hw
  cases hm;exact⟨h.step (cK hw).1,hw⟩
 ·cases hm
theorem ju {s s':PS} {n:Tx} (h:Ws s) (hm:cR s=some (n,s')):Gone s s'/\fe n:=by
 unfold cR at hm;split at hm
 ·rename_i hk
  cases hm;exact⟨h.step (by omega),(h.tok _ (Db h.ne)).name hk⟩
 ·cases hm
theorem jZ {w:Tx} {s:PS} (h:Ws s):GoneE s (cF w s).2:=by
 unfold cF;split
 ·rename_i hw;exact(h.step (cK hw).1).e
 ·exact GoneE.refl h
theorem iT {α:Type} {w:Tx} {s s':PS} {k:PS->Option (α×PS)} {r:α} (h:Ws s) (hi:inW w s k=some (r,s')):∃s1 s2,isW w s=true/\s.d<64/\Ws s1/\s1.d=s.d+1/\s1.ts.length+1<=s.ts.length/\k s1=some (r,s2) /\
  (∀(_:GoneE s1 s2),Gone s s')/\s1=⟨(aS s).ts,s.d+1⟩/\s'=⟨s2.ts,s2.d-1⟩:=by
 unfold inW at hi;split at hi
 ·cases hi
 ·rename_i hn
  obtain⟨c,f,o⟩:=bind_some hi;obtain⟨q,p,m⟩:=bind_some o;obtain⟨b,l⟩:=cr h f;have j:c=aS s:=by unfold bP at f;rw[ax l]at f;exact(aT f).symm
  have e:s.d<64:=by
   rcases gG s.d 64 with q|q
   ·exact q
   ·exact absurd ⟨l,q⟩ hn
  obtain⟨a,s2⟩:=q;simp only[aq,aQ]at m;obtain⟨rfl,rfl⟩:=m;have i:=b.d;refine⟨⟨c.ts,c.d+1⟩,s2,l,e,⟨b.ws.len,b.ws.tok,b.ws.ne,b.ws.last,by show c.d+1<=64;omega⟩,by show c.d+1=_;omega,b.lt,p,λg=>?_,by rw[<- j,i],rfl⟩;have t:s2.d=c.d+1:=g.d;have n:=g.le;have u:=b.lt;have v:s2.ts.length<=c.ts.length:=n;exact⟨⟨g.ws.len,g.ws.tok,g.ws.ne,g.ws.last,by show s2.d-1<=64;omega⟩,by show s2.d-1=s.d;omega,by show s2.ts.length+1<=_;omega⟩
def ML (c:Int) (s:PS):Prop:=(hd s).kind≠3\/binds (hd s).text=0\/binds (hd s).text<c
def tT (x:Ex) (c d:Nat):Prop:=∀k:Int,k<=c->d+lc x k<=64
theorem tT.atom {x:Ex} (h:gh x=true) (hd:d<=64):tT x 8 d:=λk hk=>by
 cases x<;>first|(rw[jO (by show k<=8;omega),gC];omega)|(simp[gh]at h)
theorem tT.within {x:Ex} (h:d+1+gC x<=64) (n:Nat):tT x n d:=λk _=>by have:=Js x k;omega
theorem tT.lvl {x:Ex} (hl:(n:Int)<=lvl x) (h:d+gC x<=64):tT x n d:=λk hk=>by rw[jO (by omega)];exact h
theorem FQ {l:List Ex} {x:Ex} (h:om l) (hx:ExP x):om (l++[x]):=by
 induction l with
 | nil=>show om [x];unfold om;exact⟨hx,by unfold om;trivial⟩
 | cons y l ih=>unfold om at h;show om (y::(l++[x]));unfold om;exact⟨h.1,ih h.2⟩
theorem DJ (l:List Ex) (x:Ex):vB (l++[x])=max (vB l) (gC x):=by
 induction l with
 | nil=>show vB [x]=_;rw[vB,vB,vB];omega
 | cons y l ih=>show vB (y::(l++[x]))=_;rw[vB,vB,ih];omega
structure VE (n:Nat):Prop where
 e:∀c s x s',Ws s->1<=c->c<=7->cZ n c s=some (x,s')->Gone s s'/\ExP x/\s.d+lc x c<=64/\ML c s'
 l:∀c x s y s',Ws s->1<=c->c<=7->ExP x->s.d+lc x c<=64->((hd s).kind=3->c<=binds (hd s).text->s.d+lc x (binds (hd s).text)<=64)->ib n c x s=some (y,s')->GoneE s s'/\ExP y/\s.d+lc y c<=64/\ML c s'
 s:∀s x s',Ws s->gl n s=some (x,s')->Gone s s'/\ExP x/\tT x 7 s.d
 w:∀a b s x s',Ws s->eS n a b s=some (x,s')->Gone s s'/\ExP x/\s.d+1+gC x<=64
 p:∀s x s',Ws s->fU n s=some (x,s')->Gone s s'/\ExP x/\tT x 8 s.d
 pl:∀x s y s',Ws s->ExP x->tT x 8 s.d->gT n x s=some (y,s')->GoneE s s'/\ExP y/\tT y 8 s.d
 a:∀s x s',Ws s->dN n s=some (x,s')->Gone s s'/\ExP x/\(gh x=true\/s.d+1+gC x<=64)
 f:∀s x s',Ws s->dG n s=some (x,s')->Gone s s'/\ExP x/\tT x 8 s.d
 g:∀b l s r s',Ws s->om l->l.length+s.ts.length<=1000000->s.d+vB l<=64->jT n b l s=some (r,s')->GoneE s s'/\om r/\r.length+s'.ts.length<=l.length+s.ts.length/\s.d+vB r<=64
theorem Hs:VE 0:=by
 refine⟨?_,?_,?_,?_,?_,?_,?_,?_,?_⟩<;>intros<;>rename_i h<;>simp[cZ,ib,gl,eS,fU,gT,dN,dG,jT]at h
theorem Ht (h:VE n):VE (n+1):=by
 refine⟨?_,?_,?_,?_,?_,?_,?_,?_,?_⟩
 ·intro c s x C f Y O d
  rw[cZ]at d;obtain⟨r,m,j⟩:=bind_some d;obtain⟨y,o⟩:=r;obtain⟨e,t,u⟩:=h.s s y o f m;have hb:=kT (hd o).text;obtain⟨w,E,G,st⟩:=h.l c y o x C e.ws Y O t (by rw[e.d];exact u c O) (λ_ _=>by rw[e.d];exact u _ (by omega)) j;exact⟨e.then w,E,by rw[<- e.d];exact G,st⟩
 ·intro c x s y C f Y O H S hb M
  rw[ib]at M;split at M
  ·rename_i hst
   cases M;exact⟨GoneE.refl f,H,S,hst⟩
  ·rename_i hst
   have k3:(hd s).kind=3:=by
    by_cases q:(hd s).kind=3
    ·exact q
    ·exact absurd (.inl q) hst
   have kn:binds (hd s).text≠0:=λq=>hst (.inr (.inl q));have kc:c<=binds (hd s).text:=by
    rcases Int.lt_or_le (binds (hd s).text) c with q|q
    ·exact absurd (.inr (.inr q)) hst
    ·exact q
   have a5:=kT (hd s).text;obtain⟨r,m,j⟩:=bind_some M;obtain⟨z,o⟩:=r;have v:=f.step (by omega);obtain⟨e,t,u,a0⟩:=h.e _ _ z o v.ws (by omega) (by omega) m;have a4:=hb k3 kc;have i:=v.then e.e;have T:s.d+gC (.bin (hd s).text x z)<=64:=by
    rw[gC];have e1:=v.d;rw[e1]at u;show s.d+max (lc x _) (lc z _)<=64;omega
   obtain⟨w,E,G,a3⟩:=h.l c (.bin (hd s).text x z) o y C e.ws Y O (by unfold ExP;exact⟨kn,H,t⟩) (by rw[i.d,jO (by exact kc)];exact T) (λk3' kc'=>by
    rw[i.d,jO]
    ·exact T
    ·show binds (hd o).text<=binds (hd s).text
     rcases a0 with q|q|q
     ·exact absurd k3' q
     ·omega
     ·omega) j
   exact⟨(i.then w).e,E,by rw[<- i.d];exact G,a3⟩
 ·intro s x C f d
  rw[gl]at d;split at d
  ·rename_i hor
   obtain⟨r,m,j⟩:=bind_some d;obtain⟨y,o⟩:=r;simp only[aq,aQ]at j;obtain⟨rfl,rfl⟩:=j;obtain⟨P,W,_,A,B,D,N,F,K,_,_⟩:=iT f m;obtain⟨e,t,u⟩:=h.s P y W B F;refine⟨K e.e,?_,?_⟩
   ·unfold ExP
    exact⟨hor.imp (λq=>(cK q).2) (λq=>(cK q).2),t⟩
   ·refine tT.lvl (by show(7:Int)<=7;omega) ?_
    have:=u 7 (by omega);rw[gC];rw[D]at this;unfold lc at this;omega
  ·obtain⟨g,p,a⟩:=h.p s x C f d
   exact⟨g,p,λk F=>a k (by omega)⟩
 ·intro a b s x C f d
  rw[eS]at d;obtain⟨P,W,_,A,B,D,N,F,K,_,_⟩:=iT f d;obtain⟨r,m,j⟩:=bind_some F;obtain⟨U,J,I⟩:=bind_some j;simp only[aq,aQ]at I;obtain⟨rfl,rfl⟩:=I;obtain⟨e,t,u,_⟩:=h.e 1 P r.1 r.2 B (by omega) (by omega) m;obtain⟨w,_⟩:=cr e.ws J;exact⟨K (e.then w.e).e,t,by rw[kQ t,D]at u;omega⟩
 ·intro s x C f d
  rw[fU]at d;obtain⟨r,m,j⟩:=bind_some d;obtain⟨y,o⟩:=r;obtain⟨e,t,u⟩:=h.f s y o f m;obtain⟨w,E,G⟩:=h.pl y o x C e.ws t (by rw[e.d];exact u) j;exact⟨e.then w,E,by rw[<- e.d];exact G⟩
 ·intro x s y C f H S d
  rw[gT]at d;split at d
  ·obtain⟨r,m,j⟩:=bind_some d
   obtain⟨z,o⟩:=r;obtain⟨e,t,u⟩:=h.w _ _ s z o f m;have Q:=S 8 (by omega);obtain⟨w,E,G⟩:=h.pl (.cell x z) o y C e.ws (by unfold ExP;exact⟨H,t⟩) (tT.lvl (by show(8:Int)<=8;omega) (by rw[e.d,gC];unfold lc at Q;omega)) j;exact⟨(e.then w).e,E,by rw[<- e.d];exact G⟩
  ·split at d
   ·rename_i hc
    obtain⟨r,m,j⟩:=bind_some d;obtain⟨z,o⟩:=r;have v:=f.step (cK hc).1;obtain⟨e,t,u⟩:=h.a _ z o v.ws m;have i:=v.then e.e;have Q:=S 8 (by omega);rw[v.d]at u;obtain⟨w,E,G⟩:=h.pl (.link x z) o y C e.ws (by unfold ExP;exact⟨H,t⟩) (tT.lvl (by show(8:Int)<=8;omega) (by
     rw[i.d,gC];unfold lc at Q
     by_cases hz:gh z=true
     ·rw[ax hz];omega
     ·rw[ap hz]
      rcases u with q|q
      ·exact absurd q hz
      ·omega)) j
    exact⟨(i.then w).e,E,by rw[<- i.d];exact G⟩
   ·cases d
    exact⟨GoneE.refl f,H,S⟩
 ·intro s x C f d
  rw[dN]at d;split at d
  ·obtain⟨g,p,a⟩:=h.w _ _ s x C f d
   exact⟨g,p,.inr a⟩
  ·split at d
   ·rename_i F
    cases d;exact⟨f.step (by omega),by unfold ExP;exact(f.tok _ (Db f.ne)).num F,.inl rfl⟩
   ·obtain⟨r,m,j⟩:=bind_some d
    cases j;obtain⟨g,hn⟩:=ju f m;exact⟨g,by unfold ExP;exact hn,.inl rfl⟩
 ·intro s x C f d
  rw[dG]at d;split at d
  ·rename_i F
   obtain⟨r,m,j⟩:=bind_some d;cases j;have v:=f.step (cK F).1;obtain⟨e,t,u⟩:=h.w _ _ _ r.1 r.2 v.ws m;rw[v.d]at u;exact⟨v.then e.e,by unfold ExP;exact t,tT.lvl (by show(8:Int)<=8;omega) (by rw[gC];omega)⟩
  ·split at d
   ·rename_i F
    obtain⟨r,m,j⟩:=bind_some d;cases j;have v:=f.step (cK F).1;obtain⟨P,W,_,A,B,D,N,L,K,_,_⟩:=iT v.ws m;obtain⟨U,J,I⟩:=bind_some L;cases I;obtain⟨w,_⟩:=cr B J;rw[v.d]at A;exact⟨v.then (K w.e).e,by unfold ExP;trivial,tT.lvl (by show(8:Int)<=8;omega) (by rw[gC];omega)⟩
   ·obtain⟨r,m,j⟩:=bind_some d
    obtain⟨y,o⟩:=r;obtain⟨e,t,u⟩:=h.a s y o f m;split at j
    ·rename_i F
     obtain⟨r2,J,I⟩:=bind_some j;cases I;obtain⟨P,W,_,A,B,D,N,L,K,_,_⟩:=iT e.ws J;obtain⟨r3,h6,O⟩:=bind_some L;obtain⟨s3,Q,h9⟩:=bind_some O;obtain⟨l3,t3⟩:=r3;simp only[aq,aQ]at h9;obtain⟨R,rfl⟩:=h9;have M:=B.len;rw[e.d]at D;rw[e.d]at A;obtain⟨w,E,V,X⟩:=h.g true [] P l3 t3 B (by unfold om;trivial) (by simpa using M) (by rw[vB];omega) h6;obtain⟨g3,_⟩:=cr w.ws Q;have Z:=K (w.then g3).e;refine⟨e.then Z.e,?_,tT.lvl (by show(8:Int)<=8;omega) ?_⟩
     ·unfold ExP
      rw[<- R];exact⟨(f.tok _ (Db f.ne)).name F.1,by simp at V;show l3.length<=_;omega,E⟩
     ·rw[gC,<- R]
      rw[D]at X;show s.d+(1+vB l3)<=64;omega
    ·cases j
     refine⟨e,t,?_⟩;rcases u with q|q
     ·exact tT.atom q f.deep
     ·exact tT.within q 8
 ·intro b l s r C f H M hd d
  rw[jT]at d;split at d
  ·cases d
   exact⟨GoneE.refl f,H,ag _,hd⟩
  ·obtain⟨o,m,j⟩:=bind_some d
   obtain⟨q,J,I⟩:=bind_some j;obtain⟨y,U⟩:=q;have v:GoneE s o:=by
    split at m
    ·cases m;exact GoneE.refl f
    ·exact(cr f m).1.e
   obtain⟨e,t,u,_⟩:=h.e 1 o y U v.ws (by omega) (by omega) J;rw[kQ t,v.d]at u;have i:=v.then e;have a6:=i.lt;obtain⟨w,E,V,X⟩:=h.g false (l++[y]) U r C e.ws (FQ H t) (by rw[ac];show l.length+1+_<=_;omega) (by rw[i.d,DJ];omega) I;rw[ac]at V;have n3:r.length+C.ts.length<=l.length+1+U.ts.length:=V;exact⟨(i.then w).e,E,by omega,by rw[<- i.d];exact X⟩
theorem yq:∀n,VE n
 | 0=>Hs
 | n+1=>Ht (yq n)
def b8 (n:Int):UInt8:=UInt8.ofNat (n%256).toNat
def le4 (n:Int):Tx:=[b8 n,b8 (n/256),b8 (n/65536),b8 (n/16777216)]
def mv (pages stack:Nat) (ws:List Int):Tx:=le4 pages++(le4 stack++(le4 0++(le4 ws.length++(ws.flatMap le4++(le4 0++(le4 0++(le4 1++le4 0)))))))
def lh (n stack pages:Nat):Bool:=decide (256*((4*n+255)/256)+stack+256<=256*pages)
theorem ic (n:Int):(le4 n).length=4:=rfl
theorem pk (n:Int):((b8 n).toNat:Int)=n%256:=by
 unfold b8;have h:(n%256).toNat<256:=by omega
 have a:(UInt8.ofNat (n%256).toNat).toNat=(n%256).toNat:=by rw[UInt8.toNat_ofNat'];omega
 rw[a];omega
def un4 (a b c d:UInt8):Int:=(a.toNat:Int)+256*b.toNat+65536*c.toNat+16777216*d.toNat
theorem LG {n:Int} (h0:0<=n) (h1:n<4294967296):un4 (b8 n) (b8 (n/256)) (b8 (n/65536)) (b8 (n/16777216))=n:=by
 unfold un4;rw[pk,pk,pk,pk];omega
theorem tz:∀ws:List Int,(ws.flatMap le4).length=4*ws.length
 | []=>rfl
 | w::ws=>by rw[gO,ac,tz ws,ic,aC];omega
end Go.Proofs.YtbeaaimcpkogcaaGreatDoor
