/- The helper works of the isa statements answers true in every world in which the table lies. -/
import Derived.Test.YtoaneiidomdljaaDoorDj
import Derived.Deep.RegionWith
namespace Go.Proofs.YtoaneiidomdljaaDoor
open Go.RowKit Go.Shelf

/-- Encode, Decode, Name beside a block of the caller's own -/
theorem enc_k (w0 u : World) (B : Nat) (o : Obj) (hB : u.heap[B]? = some o) (hb : Below w0.heap.size w0 u) (ht : Tab w0) (op a b c m v x : Int) (hv : encW op a b c m = v) (hx : encE op a b c m = x) :
    Calls Tryd.prog 10 #[.agg (insV op a b c m)] u fun e z => e = .returned (.tuple #[.int .u32 v, .int .i64 x]) ∧ z.heap[B]? = some o ∧ Below w0.heap.size w0 z := by
  subst hv hx
  refine (enc_in u u (Below.refl _ _) (ht.below hb) op a b c m).mono ?_
  rintro e z ⟨rfl, h⟩
  exact ⟨rfl, by rw [h.block _ (lt_of_block hB)]; exact hB, hb.trans (h.mono hb.size)⟩
theorem dec_k (w0 u : World) (B : Nat) (o : Obj) (hB : u.heap[B]? = some o) (hb : Below w0.heap.size w0 u) (ht : Tab w0) (W op a b c m : Int) (hW0 : 0 ≤ W) (hW1 : W < 4294967296) (hd : dO W = op ∧ dA W = a ∧ dB W = b ∧ dC W = c ∧ dM W = m) :
    Calls Tryd.prog 13 #[.int .u32 W] u fun e z => e = .returned (.agg (insV op a b c m)) ∧ z.heap[B]? = some o ∧ Below w0.heap.size w0 z := by
  obtain ⟨rfl, rfl, rfl, rfl, rfl⟩ := hd
  refine (dec_in u u (Below.refl _ _) (ht.below hb) W hW0 hW1).mono ?_
  rintro e z ⟨rfl, h⟩
  exact ⟨rfl, by rw [h.block _ (lt_of_block hB)]; exact hB, hb.trans (h.mono hb.size)⟩

theorem w_dec (w0 w z : World) (hz : z.heap[w.heap.size]? = some (.cells (insV 1 3 0 0 (-1)) 23 (0, 0))) (hb : Below w0.heap.size w0 z) (ht : Tab w0) :
    Calls Tryd.prog 13 #[.int .u32 19927039] z.drew fun e u => e = .returned (.agg #[.int .i64 1, .int .i64 3, .int .i64 0, .int .i64 0, .int .i64 (-1)]) ∧
      (u.cell? ⟨w.heap.size, 0, none⟩ = some (.int .i64 1) ∧ u.cell? ⟨w.heap.size, 1, none⟩ = some (.int .i64 3) ∧ u.cell? ⟨w.heap.size, 2, none⟩ = some (.int .i64 0) ∧ u.cell? ⟨w.heap.size, 3, none⟩ = some (.int .i64 0) ∧ u.cell? ⟨w.heap.size, 4, none⟩ = some (.int .i64 (-1))) ∧ Below w0.heap.size w0 u := by
  refine (dec_k w0 z.drew w.heap.size _ (show z.drew.heap[w.heap.size]? = _ from hz) (drew_below hb) ht 19927039 1 3 0 0 (-1) (by omega) (by omega) (by decide)).mono ?_
  rintro e u ⟨rfl, hu, hbu⟩
  exact ⟨rfl, ⟨(cell_of_row u _ 0 _ _ _ hu).trans rfl, (cell_of_row u _ 1 _ _ _ hu).trans rfl, (cell_of_row u _ 2 _ _ _ hu).trans rfl, (cell_of_row u _ 3 _ _ _ hu).trans rfl, (cell_of_row u _ 4 _ _ _ hu).trans rfl⟩, hbu⟩

theorem w_name (w0 u : World) (ht : Tab w0) (h : Below w0.heap.size w0 u) :
    Calls Tryd.prog 16 #[.int .i64 1] u fun e y => e = .returned (.string ⟨#[108, 105]⟩) ∧ Below w0.heap.size w0 y := name_in w0 u h ht 1

set_option maxHeartbeats 2000000 in
theorem works_in (w0 w : World) (h : Below w0.heap.size w0 w) (ht : Tab w0) :
    Calls Tryd.prog 12 #[] w fun e w' => e = .returned (.bool true) ∧ Below w0.heap.size w0 w' := by
  have e1 := Lib.hid (show encW 1 3 0 0 (-1) = 19927039 by decide)
  have e2 := Lib.hid (show encE 1 3 0 0 (-1) = 0 by decide)
  have b1 := h.alloc h.size (.cells (insV 1 3 0 0 (-1)) 23)
  go_enter Tryd.func12, Tryd.ntmps12
  go_wp2_with fail
  refine (enc_k w0 _ w.heap.size _ (heap_alloc_new _ _) b1 ht 1 3 0 0 (-1) _ _ e1.out e2.out).mono ?_
  rintro e z ⟨rfl, hz, hb⟩
  have k0 : z.cell? ⟨w.heap.size, 0, none⟩ = some (.int .i64 1) := (cell_of_row z _ 0 _ _ _ hz).trans rfl
  have k1 : z.cell? ⟨w.heap.size, 1, none⟩ = some (.int .i64 3) := (cell_of_row z _ 1 _ _ _ hz).trans rfl
  have k2 : z.cell? ⟨w.heap.size, 2, none⟩ = some (.int .i64 0) := (cell_of_row z _ 2 _ _ _ hz).trans rfl
  have k3 : z.cell? ⟨w.heap.size, 3, none⟩ = some (.int .i64 0) := (cell_of_row z _ 3 _ _ _ hz).trans rfl
  have k4 : z.cell? ⟨w.heap.size, 4, none⟩ = some (.int .i64 (-1)) := (cell_of_row z _ 4 _ _ _ hz).trans rfl
  go_wp2_with fail
  go_region_with (first | (go_at_call 13; refine (w_dec w0 w z hz hb ht).mono ?_; rintro e u ⟨rfl, ⟨q0, q1, q2, q3, q4⟩, hbu⟩) | (go_at_call 16; refine (w_name w0 _ ht (by assumption)).mono ?_; rintro e y ⟨rfl, hby⟩))
  all_goals go_wp2
  all_goals go_ret
  all_goals exact ⟨rfl, by assumption⟩
end Go.Proofs.YtoaneiidomdljaaDoor
