/- Lemmas on the way to the claim. -/
import Derived.Test.YtbeaaimcpkogcaaGreatDoorM18
set_option linter.unusedSimpArgs false
set_option linter.unusedVariables false
namespace Go.Proofs.YtbeaaimcpkogcaaGreatDoor
variable {rest s t:Tx} {u:UInt8} {l r:Ex}
theorem Es.se (h:Es s) (rest:Tx):SE (s++rest):=by
 obtain⟨u,q,rfl,a⟩:=h;intro v r e;injection e with e _;subst e;intro b;rcases a with a|a|rfl|rfl|rfl
 ·revert a
  have:∀x∈([124,38,61,60,62,47]:Tx),¬dL x=2:=by decide
  exact this _ b
 ·revert a
  have:∀x∈([124,38,61,60,62,47]:Tx),¬dL x=3:=by decide
  exact this _ b
 ·revert b;decide
 ·revert b;decide
 ·revert b;decide
theorem de (h:u∈([32,40,41,44,58,59,91,93,10,123,125]:Tx)) (q:Tx):Aft (u::q):=by
 have:∀x∈([32,40,41,44,58,59,91,93,10,123,125]:Tx),(dL x≠2/\dL x≠3)/\x ∉ ([124,38,61,60,62,47]:Tx):=by decide
 exact⟨λv r e=>by injection e with e _;subst e;exact(this _ h).1,λv r e=>by injection e with e _;subst e;exact(this _ h).2⟩
theorem sW (h:fe s):Es s:=by obtain⟨_,_,⟨u,r,rfl,a⟩,_⟩:=h;exact⟨u,r,rfl,.inl a⟩
theorem iM:∀{x:Ex},ExP x->Es (cV x)
 | .num n,h=>by
  unfold ExP at h;rw[cV];obtain⟨_,a,b,_⟩:=pT h;obtain⟨u,r,hd⟩:=List.exists_cons_of_ne_nil a;exact⟨u,r,hd,.inr (.inl (oO (b u (by rw[hd];exact aL ..))))⟩
 | .name s,h=>by unfold ExP at h;rw[cV];exact sW h
 | .un t r,h=>by
  unfold ExP at h;rw[cV];rcases h.1 with rfl|rfl
  ·exact⟨33,_,rfl,.inr (.inr (.inr (.inl rfl)))⟩
  ·exact⟨45,_,rfl,.inr (.inr (.inr (.inr rfl)))⟩
 | .bin t l r,h=>by unfold ExP at h;rw[cV];exact((iM h.2.1).par _).app _
 | .call s args,h=>by unfold ExP at h;rw[cV];exact(sW h.1).app _
 | .cell l r,h=>by unfold ExP at h;rw[cV];exact((iM h.1).par _).app _
 | .link l r,h=>by unfold ExP at h;rw[cV];exact((iM h.1).par _).app _
 | .new l,_=>by rw[cV];exact⟨110,_,rfl,.inl (by decide)⟩
 | .inp,_=>by rw[cV];exact⟨105,_,rfl,.inl (by decide)⟩
def ku (x:Ex):Prop:=∀rest,Aft rest->df (cV x++rest) (co x) rest
theorem I6 {x:Ex} (hx:ExP x) (h:ku x) (c:Int) (rest:Tx) (ha:Aft rest):df (lg x c (cV x)++rest) (uD x c (co x)) rest:=by
 unfold lg uD IE par;cases decide (lvl x<c)with
 | false=>exact h rest ha
 | true =>
  rw[ax rfl,ax rfl];exact(((ck (c:=40) (by decide) ((iM hx).se _)).trans (h (41::rest) (de (by decide) _))).trans (ck (c:=41) (by decide) ha.2)).cast (by simp) (by simp) rfl
theorem KJ (ht:t=rC\/t=g9) (hr:ExP r) (h:ku r):ku (.un t r):=by
 intro a b;rw[cV,co];have d:=((iM hr).par (decide (lvl r<7))).se a;rcases ht with rfl|rfl
 ·exact((ck (c:=33) (by decide) d).trans (I6 hr h 7 a b)).cast (by unfold lg;simp) (by simp) rfl
 ·exact((ck (c:=45) (by decide) d).trans (I6 hr h 7 a b)).cast (by unfold lg;simp) (by simp) rfl
theorem I5 (ht:binds t≠0) (hl:ExP l) (hr:ExP r) (h1:ku l) (h2:ku r):ku (.bin t l r):=by
 intro rest e;rw[cV,co];have a:=I6 hl h1 (binds t) (32::(t++32::(lg r (binds t+1) (cV r)++rest))) (de (by decide) _);have b:df (32::(t++32::(lg r (binds t+1) (cV r)++rest))) [] _:=eh (.inl rfl);have c:=KL (rest:=lg r (binds t+1) (cV r)++rest) ht;have d:df (32::(lg r (binds t+1) (cV r)++rest)) [] _:=eh (.inl rfl);exact((((a.trans b).trans c).trans d).trans (I6 hr h2 (binds t+1) rest e)).cast (by simp) (by simp) rfl
theorem zc:∀(args:List Ex),om args->(∀x∈args,ku x)->∀(b:Bool) (rest:Tx),SE rest->df (eN b args++41::rest) (iY b args++[tS bR]) rest
 | [],_,_,b,rest,ha=>by
  rw[eN,iY];exact ck (by decide) ha
 | x::xs,hp,h,b,rest,ha=>by
  unfold om at hp;have a:=zc xs hp.2 (λy hy=>h y (aP _ hy)) false rest ha;have f:Aft (eN false xs++41::rest):=by
   cases xs with
   | nil=>rw[eN];exact de (by decide) _
   | cons y ys=>rw[eN];exact de (u:=44) (by decide) _
  have e:=(h x (aL ..)) _ f;rw[eN,iY];cases b with
  | true=>exact(e.trans a).cast (by simp) (by simp) rfl
  | false =>
   have c:df (44::32::(cV x++(eN false xs++41::rest))) [tS fy] _:=ck (c:=44) (by decide) (de (u:=32) (by decide) _).2;have d:df (32::(cV x++(eN false xs++41::rest))) [] _:=eh (.inl rfl);exact(((c.trans d).trans e).trans a).cast (by simp) (by simp) rfl
theorem Fx {args:List Ex} (hs:fe s) (hp:om args) (h:∀x∈args,ku x):ku (.call s args):=by
 intro rest e;rw[cV,co];have a:=kI (rest:=40::(eN true args++41::rest)) hs (de (by decide) _).1;have d:SE (eN true args++41::rest):=by
  cases args with
  | nil=>rw[eN];exact(de (u:=41) (by decide) _).2
  | cons x xs =>
   unfold om at hp;rw[eN,ax rfl,bh,aF];exact(iM hp.1).se _
 have b:=ck (c:=40) (by decide) d;exact((a.trans b).trans (zc args hp h true rest e.2)).cast (by simp) (by simp) rfl
theorem Fw (hl:ExP l) (hr:ExP r) (h1:ku l) (h2:ku r):ku (.cell l r):=by
 intro e f;rw[cV,co];have a:=I6 hl h1 8 (91::(cV r++93::e)) (de (by decide) _);have b:=ck (c:=91) (by decide) ((iM hr).se (93::e));have c:=h2 (93::e) (de (by decide) _);have d:=ck (c:=93) (by decide) f.2;exact(((a.trans b).trans c).trans d).cast (by simp) (by simp) rfl
theorem Fv (hl:ExP l) (hr:ExP r) (h1:ku l) (h2:ku r):ku (.link l r):=by
 intro f g;rw[cV,co]
 by_cases hat:gh r=true
 ·rw[ax hat,ax hat]
  have a:=I6 hl h1 8 (58::(cV r++f)) (de (by decide) _);have b:=ck (c:=58) (by decide) ((iM hr).se f);exact((a.trans b).trans (h2 f g)).cast (by simp) (by simp) rfl
 ·rw[ap hat,ap hat]
  have a:=I6 hl h1 8 (58::40::(cV r++41::f)) (de (by decide) _);have b:=ck (c:=58) (by decide) (de (u:=40) (by decide) (cV r++41::f)).2;have c:=ck (c:=40) (by decide) ((iM hr).se (41::f));have d:=h2 (41::f) (de (by decide) _);have e:=ck (c:=41) (by decide) g.2;exact((((a.trans b).trans c).trans d).trans e).cast (by simp) (by simp) rfl
theorem I1 (hl:ExP l) (h:ku l):ku (.new l):=by
 intro rest e;rw[cV,co];have a:=mR (k:=ri) (rest:=40::(cV l++41::rest)) (by decide) (de (by decide) _).1;have b:=ck (c:=40) (by decide) ((iM hl).se (41::rest));have c:=h (41::rest) (de (by decide) _);have d:=ck (c:=41) (by decide) e.2;exact(((a.trans b).trans c).trans d).cast (by simp) (by simp) rfl
theorem I2:ku .inp:=by
 intro rest e;rw[cV,co];have a:=mR (k:=wIn) (rest:=40::41::rest) (by decide) (de (by decide) _).1;have b:=ck (c:=40) (rest:=41::rest) (by decide) (de (by decide) _).2;have d:=ck (c:=41) (by decide) e.2;exact((a.trans b).trans d).cast (by simp) (by simp) rfl
mutual
theorem jw:∀x:Ex,ExP x->ku x
 | .num n,h=>λrest ha=>by rw[cV,co];exact I0 (by unfold ExP at h;exact h) ha.1
 | .name s,h=>λrest ha=>by rw[cV,co];exact kI (by unfold ExP at h;exact h) ha.1
 | .un t r,h=>by unfold ExP at h;exact KJ h.1 h.2 (jw r h.2)
 | .bin t l r,h=>by unfold ExP at h;exact I5 h.1 h.2.1 h.2.2 (jw l h.2.1) (jw r h.2.2)
 | .call s args,h=>by unfold ExP at h;exact Fx h.1 h.2.2 (CW args h.2.2)
 | .cell l r,h=>by unfold ExP at h;exact Fw h.1 h.2 (jw l h.1) (jw r h.2)
 | .link l r,h=>by unfold ExP at h;exact Fv h.1 h.2 (jw l h.1) (jw r h.2)
 | .new l,h=>by unfold ExP at h;exact I1 h (jw l h)
 | .inp,_=>I2
theorem CW:∀l:List Ex,om l->∀x∈l,ku x
 | [],_,_,hm=>absurd hm (by simp)
 | y::l,h,x,hm=>by
  unfold om at h
  by_cases he:x=y
  ·exact he▸jw y h.1
  ·exact CW l h.2 x ((aR.1 hm).resolve_left he)
end
theorem fW {k:Tx} (h:k∈jx) (rest:Tx):df (k++32::rest) [tK k] rest:=
 ((mR h (de (u:=32) (by decide) rest).1).trans (eh (.inl rfl))).cast rfl (by simp) rfl
theorem pN (ha:Aft rest):df (59::rest) [tS bU] rest:=ck (by decide) ha.2
theorem CX (rest:Tx):df (xEq++rest) [tS wEq] rest:=by
 have a:df (32::61::32::rest) [] _:=eh (.inl rfl);have b:=ck (c:=61) (rest:=32::rest) (by decide) (de (by decide) _).2;exact((a.trans b).trans (eh (.inl rfl))).cast rfl (by simp) rfl
theorem sZ (p:Bool) (hr:WE rest):df ((if p=true then tU else[])++rest) (if p=true then[tK cY]else[]) rest:=by
 cases p with
 | true =>
  rw[ax rfl,ax rfl];exact((eh (.inl rfl)).trans (mR (k:=cY) (by decide) hr)).cast rfl (by simp) rfl
 | false=>exact df.refl _
theorem tL (p:Bool) (h:u∈([32,40,41,44,58,59,91,93,10,123,125]:Tx)) (q:Tx):Aft ((if p=true then tU else[])++u::q):=by
 cases p with
 | true=>exact de (u:=32) (by decide) _
 | false=>exact de h q
theorem mS (hr:ExP r) (ha:Aft rest):df (cV r++59::rest) (co r++[tS bU]) rest:=
 ((jw r hr) (59::rest) (de (by decide) _)).trans (pN ha)
def vW (d:Nat) (x:Sm):Prop:=∀rest,Aft rest->df (stT d x++rest) (stK x) rest
theorem uU:∀(d:Nat) (l:List Sm),(∀x∈l,vW d x)->∀rest,df (db d l++rest) (iG l) rest
 | d,[],_,rest=>by rw[db,iG];exact df.refl _
 | d,x::xs,h,rest=>by
  rw[db,iG];have e:=uU d xs (λy hy=>h y (aP _ hy)) rest;have a:=y9 d (stT d x++10::(db d xs++rest));have b:=(h x (aL ..)) (10::(db d xs++rest)) (de (by decide) _);have c:df (10::(db d xs++rest)) [] _:=eh (.inr (.inl rfl));exact(((a.trans b).trans c).trans e).cast (by simp) (by simp) rfl
theorem oJ (d:Nat) (l:List Sm) (h:∀x∈l,vW (d+1) x) (ha:Aft rest):df (iW d l++rest) (tS fu::(iG l++[tS c8])) rest:=by
 unfold iW;have a:df (32::123::10::(db (d+1) l++(tabs d++125::rest))) [] _:=eh (.inl rfl);have b:=ck (c:=123) (rest:=10::(db (d+1) l++(tabs d++125::rest))) (by decide) (de (by decide) _).2;have c:df (10::(db (d+1) l++(tabs d++125::rest))) [] _:=eh (.inr (.inl rfl));have e:=uU (d+1) l h (tabs d++125::rest);have f:=y9 d (125::rest);have g:=ck (c:=125) (by decide) ha.2;exact(((((a.trans b).trans c).trans e).trans f).trans g).cast (by simp) (by simp) rfl
theorem oS (d:Nat) (l:List Sm) (rest:Tx):Aft (iW d l++rest):=by unfold iW;exact de (u:=32) (by decide) _
theorem I3 (d:Nat) (r:Ex) (a b:List Sm) (hr:ExP r) (ha:∀x∈a,vW (d+1) x) (hb:∀x∈b,vW (d+1) x/\vW d x):vW d (.iff r a b):=by
 intro c e;have p:stT d (.iff r a b)=[105,102,32]++(cV r++(iW d a++(if b.isEmpty=true then[]else if jB b=true then[32,101,108,115,101,32]++F0 d b else[32,101,108,115,101]++iW d b))):=by rw[stT];rfl
 have q:stK (.iff r a b)=tK wIf::(co r++(tS fu::(iG a++[tS c8]))++(if b.isEmpty=true then[]else tK iu::(if jB b=true then iG b else tS fu::(iG b++[tS c8])))):=by rw[stK]
 rw[p,q]
 by_cases h0:b.isEmpty=true
 ·rw[ax h0,ax h0]
  have i:=fW (k:=wIf) (by decide) (cV r++(iW d a++c));have j:=(jw r hr) (iW d a++c) (oS d a c);exact((i.trans j).trans (oJ d a ha e)).cast (by simp) (by simp) rfl
 ·rw[ap h0,ap h0]
  by_cases hei:jB b=true
  ·rw[ax hei,ax hei]
   obtain⟨h,f,g,rfl⟩:=rZ hei;have l:=(hb _ (aL ..)).2 c e;have i:=fW (k:=wIf) (by decide) (cV r++(iW d a++(32::([101,108,115,101]++32::(stT d (.iff h f g)++c)))));have j:=(jw r hr) (iW d a++(32::([101,108,115,101]++32::(stT d (.iff h f g)++c)))) (oS d a _);have m:=oJ d a ha (de (u:=32) (by decide) ([101,108,115,101]++32::(stT d (.iff h f g)++c)));have n:df (32::([101,108,115,101]++32::(stT d (.iff h f g)++c))) [] _:=eh (.inl rfl);have o:=fW (k:=iu) (by decide) (stT d (.iff h f g)++c);refine(((((i.trans j).trans m).trans n).trans o).trans l).cast ?_ ?_ rfl
   ·rw[F0,F0];simp
   ·rw[iG,iG];simp
  ·rw[ap hei,ap hei]
   have i:=fW (k:=wIf) (by decide) (cV r++(iW d a++(32::([101,108,115,101]++(iW d b++c)))));have j:=(jw r hr) (iW d a++(32::([101,108,115,101]++(iW d b++c)))) (oS d a _);have m:=oJ d a ha (de (u:=32) (by decide) ([101,108,115,101]++(iW d b++c)));have n:df (32::([101,108,115,101]++(iW d b++c))) [] _:=eh (.inl rfl);have o:=mR (k:=iu) (by decide) (oS d b c).1;exact(((((i.trans j).trans m).trans n).trans o).trans (oJ d b (λx hx=>(hb x hx).1) e)).cast (by simp) (by simp) rfl
mutual
theorem KK:∀(x:Sm),SmP x->∀d,vW d x
 | .var n p none,h=>λd rest ha=>by
  unfold SmP at h;rw[stT,stK];have e:=fW (k:=tV) (by decide) (n++((if p=true then tU else[])++59::rest));have c:=kI (rest:=(if p=true then tU else[])++59::rest) h (tL p (by decide) rest).1;have f:=sZ p (rest:=59::rest) (de (by decide) rest).1;exact(((e.trans c).trans f).trans (pN ha)).cast (by simp) (by simp) rfl
 | .var n p (some r),h=>λd rest ha=>by
  unfold SmP at h;rw[stT,stK];have e:=fW (k:=tV) (by decide) (n++((if p=true then tU else[])++(xEq++(cV r++59::rest))));have c:=kI (rest:=(if p=true then tU else[])++(xEq++(cV r++59::rest))) h.1 (tL p (u:=32) (by decide) _).1;have f:=sZ p (rest:=xEq++(cV r++59::rest)) (de (u:=32) (by decide) _).1;exact((((e.trans c).trans f).trans (CX _)).trans (mS h.2 ha)).cast (by simp) (by simp) rfl
 | .set n r,h=>λd rest ha=>by
  unfold SmP at h;rw[stT,stK];have c:=kI (rest:=xEq++(cV r++59::rest)) h.1 (de (u:=32) (by decide) _).1;exact((c.trans (CX _)).trans (mS h.2 ha)).cast (by simp) (by simp) rfl
 | .cell l r,h=>λd rest ha=>by
  unfold SmP at h;rw[stT,stK];have c:=(jw l h.2.1) (xEq++(cV r++59::rest)) (de (u:=32) (by decide) _);exact((c.trans (CX _)).trans (mS h.2.2 ha)).cast (by simp) (by simp) rfl
 | .iff r a b,h=>λd=>by
  unfold SmP at h;exact I3 d r a b h.1 (λx hx=>oI a h.2.1 x hx (d+1)) (λx hx=>⟨oI b h.2.2 x hx (d+1),oI b h.2.2 x hx d⟩)
 | .whl r a,h=>λd rest ha=>by
  unfold SmP at h;have g:stT d (.whl r a)=[119,104,105,108,101,32]++(cV r++iW d a):=by rw[stT];rfl
  rw[g,stK];have e:=fW (k:=jI) (by decide) (cV r++(iW d a++rest));have c:=(jw r h.1) (iW d a++rest) (oS d a rest);exact((e.trans c).trans (oJ d a (λx hx=>oI a h.2 x hx (d+1)) ha)).cast (by simp) (by simp) rfl
 | .out r,h=>λd rest ha=>by
  unfold SmP at h;rw[stT,stK];exact((fW (k:=yo) (by decide) (cV r++59::rest)).trans (mS h ha)).cast (by simp) (by simp) rfl
 | .free r,h=>λd rest ha=>by
  unfold SmP at h;rw[stT,stK];exact((fW (k:=nl) (by decide) (cV r++59::rest)).trans (mS h ha)).cast (by simp) (by simp) rfl
 | .drain,h=>λd rest ha=>by
  rw[stT,stK];exact((mR (k:=jY) (rest:=59::rest) (by decide) (de (by decide) _).1).trans (pN ha)).cast (by simp) (by simp) rfl
 | .ret none,h=>λd rest ha=>by
  rw[stT,stK];exact((mR (k:=fS) (rest:=59::rest) (by decide) (de (by decide) _).1).trans (pN ha)).cast (by simp) (by simp) rfl
 | .ret (some r),h=>λd rest ha=>by
  unfold SmP at h;rw[stT,stK];exact((fW (k:=fS) (by decide) (cV r++59::rest)).trans (mS h ha)).cast (by simp) (by simp) rfl
 | .call r,h=>λd rest ha=>by
  unfold SmP at h;rw[stT,stK];exact(mS h.2 ha).cast (by simp) rfl rfl
theorem oI:∀(l:List Sm),jW l->∀x∈l,∀d,vW d x
 | [],_,_,hm=>absurd hm (by simp)
 | y::l,h,x,hm=>by
  unfold jW at h
  by_cases he:x=y
  ·exact he▸KK y h.1
  ·exact oI l h.2 x ((aR.1 hm).resolve_left he)
end
theorem zb:∀(ps:List Par),(∀p∈ps,fe p.name)->∀(b:Bool) (rest:Tx),SE rest->df (dK b ps++41::rest) (lz b ps++[tS bR]) rest
 | [],_,b,rest,ha=>by
  rw[dK,lz];exact ck (by decide) ha
 | p::ps,hp,b,rest,ha=>by
  have a:=zb ps (λy hy=>hp y (aP _ hy)) false rest ha;have e:Aft (dK false ps++41::rest)/\∃u q,dK false ps++41::rest=u::q/\u∈([32,40,41,44,58,59,91,93,10,123,125]:Tx):=by
   cases ps with
   | nil=>rw[dK];exact⟨de (by decide) _,_,_,rfl,by decide⟩
   | cons y ys=>rw[dK];exact⟨de (u:=44) (by decide) _,44,_,rfl,by decide⟩
  obtain⟨e,u,q,i,h⟩:=e;have f:=kI (rest:=(if p.ptr=true then tU else[])++(dK false ps++41::rest)) (hp p (aL ..)) (by rw[i];exact(tL p.ptr h q).1);have g:=sZ p.ptr (rest:=dK false ps++41::rest) e.1;rw[dK,lz];cases b with
  | true=>exact((f.trans g).trans a).cast (by simp) (by simp) rfl
  | false =>
   have c:=ck (c:=44) (rest:=32::(p.name++((if p.ptr=true then tU else[])++(dK false ps++41::rest)))) (by decide) (de (by decide) _).2;have d:df (32::(p.name++((if p.ptr=true then tU else[])++(dK false ps++41::rest)))) [] _:=eh (.inl rfl);exact((((c.trans d).trans f).trans g).trans a).cast (by simp) (by simp) rfl
theorem I4 (f:Fun) (hp:FunP f) (rest:Tx):df (A7 f++rest) (FN f) rest:=by
 unfold A7 FN;have e:=fW (k:=mh) (by decide) (f.name++40::(dK true f.params++41::((if f.ptr=true then tU else[])++(iW 0 f.body++10::rest))));have g:=kI (rest:=40::(dK true f.params++41::((if f.ptr=true then tU else[])++(iW 0 f.body++10::rest)))) hp.name (de (by decide) _).1;have d:SE (dK true f.params++41::((if f.ptr=true then tU else[])++(iW 0 f.body++10::rest))):=by
  cases hps:f.params with
  | nil=>rw[dK];exact(de (u:=41) (by decide) _).2
  | cons p ps =>
   rw[dK,ax rfl,bh,aF];exact(sW (hp.pars p (by rw[hps];exact aL ..))).se _
 have h:=ck (c:=40) (by decide) d;have b:Aft (iW 0 f.body++10::rest):=oS 0 f.body _;have a:SE ((if f.ptr=true then tU else[])++(iW 0 f.body++10::rest)):=by
  have:iW 0 f.body++10::rest=32::([123,10]++(db 1 f.body++(tabs 0++[125]))++10::rest):=by unfold iW;simp
  rw[this];exact(tL f.ptr (by decide) _).2
 have i:=zb f.params hp.pars true _ a;have j:=sZ f.ptr (rest:=iW 0 f.body++10::rest) b.1;have l:=oJ 0 f.body (λx hx=>oI f.body hp.body x hx 1) (de (u:=10) (by decide) rest);have m:df (10::rest) [] rest:=eh (.inr (.inl rfl));exact((((((e.trans g).trans h).trans i).trans j).trans l).trans m).cast (by simp) (by simp) rfl
theorem za:∀(fs:List Fun),(∀f∈fs,FunP f)->df (eL fs) (sK fs) []
 | [],_=>df.refl _
 | f::fs,h=>by
  rw[eL,sK];exact(I4 f (h f (aL ..)) (eL fs)).trans (za fs λg hg=>h g (aP _ hg))
theorem Ag (fs:List Fun) (h:∀f∈fs,FunP f) (hl:(eL fs).length<=32768):∃ts,gI (eL fs)=some ts/\Ev (λn=>gr n [] ⟨ts,0⟩) fs:=by
 refine⟨_,AC (za fs h) hl,?_⟩;have:=Cd fs [] h;rw[bh]at this;exact this
end Go.Proofs.YtbeaaimcpkogcaaGreatDoor
