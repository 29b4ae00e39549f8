/- What the laid variable gives the walks: the table lies in the world. -/
import Derived.Test.YtoaneiidomdljaaDoorTab
import Derived.ProofKit
import Derived.LaidMore
import Derived.OpenShut
import Derived.Stop.Joined
namespace Go.Proofs.YtoaneiidomdljaaDoor
open Go.ChangeShapes Go.WideShapes Go.ChangeAt Go.RowKit

def laidL : List (String × DataW Unit) := [("fallow/isa.rows", Rows.laid_fallow_isa_rows)]
theorem gRows : Tryd.prog.globalNamed "fallow/isa.rows" = some 0 := by kernel_rfl
theorem tRows : (Tryd.prog.globals[0]?).map (·.type) = some 48 := by kernel_rfl
theorem laid_eq : (Rows.laid_fallow_isa_rows : DataW Unit) = .agg (tabL.map fun r => .agg [.lit (.string r.1.toList), .lit (.string r.2.toList)]) := rfl

/-- The door's own heap meets the condition: three closed facts. -/
theorem door_met (os : Os) (args : Array Value) : laidMetH Tryd.prog laidL ((World.doorLaid Tryd.prog 400 os).forCall (fun _ _ => 0) ⟨#[], args, []⟩).memory :=
  laidMetH_of_parts3 (fuel := 8) (laidMet_of_run' 8 (by kernel_rfl) (by kernel_rfl)) (by kernel_rfl) (by kernel_rfl)

theorem str_of {H : Type} {enc : TypeId × Value → H} {P : Program} {w : World} {base : Nat} {spare : Nat → Bool} {held : Bool} {fuel : Nat} {t : TypeId} {cs : List Value} {y : DataW H × List MemPlace} {z : Array UInt8} (ht : P.underlying t = some .string)
    (h : DataW.trod enc P w base spare held fuel t cs = some y) (e : y.1 = .lit (.string z.toList)) : cs = [.string ⟨z⟩] := by
  obtain ⟨s, rfl, rfl, _⟩ := DataW.trod_string ht h
  simp only [DataW.lit.injEq, Lit.string.injEq] at e
  have : s = ⟨z⟩ := bytes_inj e
  rw [this]

theorem of_laid {W : World} (h : laidMetH Tryd.prog laidL W) : Tab W := by
  rw [MakeChecks.laidMetH_plain _ _ _ (by kernel_rfl)] at h
  obtain ⟨ps, ⟨g0, t0, cs0, f0, p0, q0, hg0, ht0, hv0, hd0, _, _⟩, _, _⟩ := h
  obtain rfl := Option.some.inj (gRows.symm.trans hg0)
  obtain rfl := Option.some.inj (tRows.symm.trans ht0)
  obtain ⟨xs, m1, rfl, hx1, hlen, hn, hel⟩ := DataW.trod_array Tryd.underlying48 hd0
  have c46 : Tryd.prog.cellsOf 46 = 2 := by kernel_rfl
  have c48 : Tryd.prog.cellsOf 48 = 108 := by kernel_rfl
  have c9 : Tryd.prog.cellsOf 9 = 1 := by kernel_rfl
  rw [c48] at hlen
  rw [laid_eq] at hx1
  simp only [Prod.mk.injEq, DataW.agg.injEq] at hx1
  have hxm := hx1.1
  have key : ∀ i, i < 54 → cs0.toList[i * 2]? = some (.string (nmN i)) ∧ cs0.toList[i * 2 + 1]? = some (.string (fmN i)) := by
    intro i hi
    have he := hel i hi
    have hix : i < xs.length := by omega
    rw [List.getElem?_eq_getElem hix, c46] at he
    obtain ⟨y0, y1, n, hy, hl2, hy0, hy1⟩ := trod_struct2 Tryd.underlying46 he
    have hd : (xs.map (·.1))[i]? = (tabL.map fun r => (DataW.agg [.lit (.string r.1.toList), .lit (.string r.2.toList)] : DataW Unit))[i]? := by rw [← hxm]
    have htl : i < tabL.length := hi
    rw [List.getElem?_map, List.getElem?_map, List.getElem?_eq_getElem hix, List.getElem?_eq_getElem htl, hy] at hd
    simp only [Option.map_some, Option.some.injEq, DataW.agg.injEq, List.cons.injEq, and_true] at hd
    have s0 := str_of Tryd.underlying9 hy0 hd.1
    have s1 := str_of Tryd.underlying9 hy1 hd.2
    have n0 : nmN i = ⟨tabL[i].1⟩ := by unfold nmN; rw [List.getD_eq_getElem?_getD, List.getElem?_eq_getElem htl]; rfl
    have n1 : fmN i = ⟨tabL[i].2⟩ := by unfold fmN; rw [List.getD_eq_getElem?_getD, List.getElem?_eq_getElem htl]; rfl
    rw [n0, n1]
    have g0 := congrArg (fun l => l[0]?) s0
    have g1 := congrArg (fun l => l[0]?) s1
    simp [List.getElem?_drop, c9] at g0 g1
    exact ⟨by rw [Array.getElem?_toList]; exact g0, by rw [Array.getElem?_toList]; exact g1⟩
  have hcs : cs0 = tabCs := by
    apply Array.ext'
    apply List.ext_getElem?
    intro j
    by_cases hj : j < 108
    · obtain ⟨k1, k2⟩ := key (j / 2) (by omega)
      obtain ⟨t1, t2⟩ := cs_at (j / 2) (by omega)
      rw [← Array.getElem?_toList] at t1 t2
      by_cases he : j % 2 = 0
      · rw [show j / 2 * 2 = j by omega] at k1 t1
        rw [k1, t1]
      · rw [show j / 2 * 2 + 1 = j by omega] at k2 t2
        rw [k2, t2]
    · rw [List.getElem?_eq_none (by omega), List.getElem?_eq_none (by have : tabCs.toList.length = 108 := rfl; omega)]
  simp only [World.var?, gRows, Option.bind_some] at hv0
  split at hv0
  · rename_i cs t fr hh
    obtain rfl := Option.some.inj hv0
    rw [hcs] at hh
    exact ⟨(Array.getElem?_eq_some_iff.1 hh).1, t, fr, hh⟩
  · cases hv0
end Go.Proofs.YtoaneiidomdljaaDoor
