/- Lemmas on the way to the claim. -/
import Derived.Test.YtbeaaimcpkogcaaGreatDoorM50
set_option linter.unusedSimpArgs false
set_option linter.unusedVariables false
namespace Go.Proofs.YtbeaaimcpkogcaaGreatDoor
structure ImT (T:Tx) (pages st:Nat) (ws:List Int):Prop where
 t0:At4 T 0 pages
 t4:At4 T 4 st
 t8:At4 T 8 ((0:Nat):Int)
 t12:At4 T 12 ws.length
 tw:∀j x,ws[j]?=some x->At4 T (16+4*j) x
 td:At4 T (16+4*ws.length) ((0:Nat):Int)
 tf:At4 T (20+4*ws.length) ((0:Nat):Int)
 tg:At4 T (24+4*ws.length) ((1:Nat):Int)
 te:At4 T (28+4*ws.length) ((0:Nat):Int)
 len:T.length=32+4*ws.length
theorem oi {T:Tx} (A:Tx) (n:Int) (B:Tx) (h:T=A++(le4 n++B)) {off:Nat} (ho:A.length=off) (h0:0<=n) (h1:n<4294967296):At4 T off n:=by
 subst h ho;refine⟨_,_,_,_,?_,?_,?_,?_,LG h0 h1⟩
 ·rw[fd (ag _),Nat.sub_self];rfl
 ·rw[fd (by omega),show A.length+1-A.length=1 by omega];rfl
 ·rw[fd (by omega),show A.length+2-A.length=2 by omega];rfl
 ·rw[fd (by omega),show A.length+3-A.length=3 by omega];rfl
theorem qV:∀ws:List Int,(ws.flatMap le4).length=4*ws.length
 | []=>rfl
 | x::l=>by rw[gO,ac,qV l,ic,aC];omega
theorem GH (pages st:Nat) (ws:List Int) (hp:pages<=1024) (hs:st<=4096) (hn:ws.length<=4096) (hw:∀x∈ws,0<=x/\x<4294967296):ImT (mv pages st ws) pages st ws where
 t0:=oi [] pages _ rfl rfl (by omega) (by omega)
 t4:=oi (le4 pages) st _ rfl rfl (by omega) (by omega)
 t8:=oi (le4 pages++le4 st) 0 _ (by unfold mv;rw[aF]) rfl (by omega) (by omega)
 t12:=oi (le4 pages++(le4 st++le4 0)) ws.length (ws.flatMap le4++(le4 0++(le4 0++(le4 1++le4 0)))) (by unfold mv;simp only[aF]) rfl (by omega) (by omega)
 tw:=λj x hx=>by
  have a:=(aE.1 hx);obtain⟨a,c⟩:=a;have d:=hw x (c▸List.getElem_mem a);refine oi (le4 pages++(le4 st++(le4 0++(le4 ws.length++(ws.take j).flatMap le4)))) x ((ws.drop (j+1)).flatMap le4++(le4 0++(le4 0++(le4 1++le4 0)))) ?_ ?_ d.1 d.2
  ·have b:ws.flatMap le4=(ws.take j).flatMap le4++(le4 x++(ws.drop (j+1)).flatMap le4):=by
    have e:ws=ws.take j++(x::ws.drop (j+1)):=by
     conv=>lhs;rw[<- List.take_append_drop j ws]
     rw[Ef a,c]
    conv=>lhs;rw[e]
    rw[List.flatMap_append,gO]
   unfold mv;rw[b];simp only[aF]
  ·simp only[ac,ic,qV,bN]
   omega
 td:=oi (le4 pages++(le4 st++(le4 0++(le4 ws.length++ws.flatMap le4)))) 0 (le4 0++(le4 1++le4 0)) (by unfold mv;simp only[aF]) (by simp only[ac,ic,qV];omega) (by omega) (by omega)
 tf:=oi (le4 pages++(le4 st++(le4 0++(le4 ws.length++(ws.flatMap le4++le4 0))))) 0 (le4 1++le4 0) (by unfold mv;simp only[aF]) (by simp only[ac,ic,qV];omega) (by omega) (by omega)
 tg:=oi (le4 pages++(le4 st++(le4 0++(le4 ws.length++(ws.flatMap le4++(le4 0++le4 0)))))) 1 (le4 0) (by unfold mv;simp only[aF]) (by simp only[ac,ic,qV];omega) (by omega) (by omega)
 te:=oi (le4 pages++(le4 st++(le4 0++(le4 ws.length++(ws.flatMap le4++(le4 0++(le4 0++le4 1))))))) 0 [] (by unfold mv;simp only[aF,bo]) (by simp only[ac,ic,qV];omega) (by omega) (by omega)
 len:=by unfold mv;simp only[ac,ic,qV];omega
end Go.Proofs.YtbeaaimcpkogcaaGreatDoor
