/- An instruction that comes in: five integers. -/
import Derived.Test.YtoaneiidomdljaaDoorLaid
import Derived.Test.YtoaneiidomdljaaDoorPut
namespace Go.Proofs.YtoaneiidomdljaaDoor
open Go.ChangeShapes Go.WideShapes Go.ChangeAt Go.RowKit

theorem open_instr {H : Type} {enc : TypeId × Value → H} {W : World} {r : Reach} {base base' : Nat} {spare : Nat → Bool} {held : Bool} {v : Value} {x : DataW H × List MemPlace} (hv : Value.okWide Tryd.prog W r base 23 v)
    (h : ∃ fuel, DataW.trod enc Tryd.prog W base' spare held fuel 23 v.cells.toList = some x) : ∃ op a b c m : Int, v = .agg (insV op a b c m) := by
  obtain ⟨cs, rfl, hsz⟩ := okWide_struct Tryd.underlying23 hv
  obtain ⟨fuel, hf⟩ := h
  obtain ⟨xs, n, rfl, _, hl, hlen, hel⟩ := DataW.trod_struct Tryd.underlying23 hf
  have c3 : Tryd.prog.cellsOf 3 = 1 := by kernel_rfl
  have c23 : Tryd.prog.cellsOf 23 = 5 := by kernel_rfl
  have e0 : DataW.trod enc Tryd.prog W base' spare held n 3 ((cs.toList.drop 0).take (Tryd.prog.cellsOf 3)) = xs[0]? := hel 0 _ rfl
  have e1 : DataW.trod enc Tryd.prog W base' spare held n 3 ((cs.toList.drop 1).take (Tryd.prog.cellsOf 3)) = xs[1]? := hel 1 _ rfl
  have e2 : DataW.trod enc Tryd.prog W base' spare held n 3 ((cs.toList.drop 2).take (Tryd.prog.cellsOf 3)) = xs[2]? := hel 2 _ rfl
  have e3 : DataW.trod enc Tryd.prog W base' spare held n 3 ((cs.toList.drop 3).take (Tryd.prog.cellsOf 3)) = xs[3]? := hel 3 _ rfl
  have e4 : DataW.trod enc Tryd.prog W base' spare held n 3 ((cs.toList.drop 4).take (Tryd.prog.cellsOf 3)) = xs[4]? := hel 4 _ rfl
  have hlen5 : xs.length = 5 := hlen
  rw [c3] at e0 e1 e2 e3 e4
  rw [c23] at hsz
  clear hel hf hl hlen hv
  obtain ⟨l⟩ := cs
  match xs, hlen5, l, hsz with
  | [x0, x1, x2, x3, x4], _, [v0, v1, v2, v3, v4], _ =>
    obtain ⟨k0, q0, _⟩ := DataW.trod_int Tryd.underlying3 (x := x0) (by simpa using e0)
    obtain ⟨k1, q1, _⟩ := DataW.trod_int Tryd.underlying3 (x := x1) (by simpa using e1)
    obtain ⟨k2, q2, _⟩ := DataW.trod_int Tryd.underlying3 (x := x2) (by simpa using e2)
    obtain ⟨k3, q3, _⟩ := DataW.trod_int Tryd.underlying3 (x := x3) (by simpa using e3)
    obtain ⟨k4, q4, _⟩ := DataW.trod_int Tryd.underlying3 (x := x4) (by simpa using e4)
    simp only [List.cons.injEq, and_true] at q0 q1 q2 q3 q4
    subst q0 q1 q2 q3 q4
    exact ⟨k0, k1, k2, k3, k4, rfl⟩
end Go.Proofs.YtoaneiidomdljaaDoor
