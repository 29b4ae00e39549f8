/- The helper works of the sched statements answers true in every world; the document's Ready, Pick, Fair and has. -/
import Derived.Test.YtcgjijcjgchhiaaFair
namespace Go.Proofs.Ytcgjijcjgchhiaa
open Go.RowKit Go.Shelf Go.Maps

theorem reads_lit (w : World) (zs : List Int) (t : TypeId) : Reads (w.heap.size + 1) (w.alloc (.cells (zs.map (Value.int .i64)).toArray t)) (some ⟨w.heap.size, 0, none⟩) zs :=
  .inr ⟨w.heap.size, 0, rfl, by omega, fun i hi => by
    rw [World.cell?_alloc_new]
    rw [List.getElem?_toArray, List.getElem?_map, Nat.zero_add, List.getElem?_eq_getElem hi, List.getD_eq_getElem?_getD, List.getElem?_eq_getElem hi]
    rfl⟩

theorem below_new {w0 w : World} (h : Below w0.heap.size w0 w) (o : Obj) : Below w0.heap.size w0 (w.alloc o) := h.alloc h.size o

theorem ready_w (w0 w : World) (h : Below w0.heap.size w0 w) :
    Calls Try.prog 9 #[.slice (some ⟨w.heap.size, 0, none⟩) 3 3, .bool true] (w.alloc (.cells #[.int .i64 0, .int .i64 3, .int .i64 0] 3)) fun e w' => ∃ b o cap, e = .returned (.slice (some ⟨b, o, none⟩) 3 cap) ∧
      w'.cell? ⟨b, o, none⟩ = some (.int .i64 0) ∧ w'.cell? ⟨b, o + 1, none⟩ = some (.int .i64 2) ∧ w'.cell? ⟨b, o + 2, none⟩ = some (.int .i64 3) ∧ b < w'.heap.size ∧ Below w0.heap.size w0 w' := by
  refine (ready_any (some ⟨w.heap.size, 0, none⟩) 3 [0, 3, 0] true (by simp) _ (by rw [World.size_alloc]; exact reads_lit w [0, 3, 0] 3)).mono ?_
  rintro e w' ⟨v, rfl, ⟨a, cap, rfl, hr⟩, hb⟩
  have e1 : rd [0, 3, 0] true = [0, 2, 3] := by decide
  rw [e1] at hr ⊢
  rcases hr with hr | ⟨b, o, rfl, hlt, hc⟩
  · cases hr
  · exact ⟨b, o, cap, rfl, hc 0 (by simp), hc 1 (by simp), hc 2 (by simp), hlt, (below_new h _).trans (hb.mono (by have := (below_new h (.cells #[.int .i64 0, .int .i64 3, .int .i64 0] 3)).size; omega))⟩

theorem pick_w (w : World) (b o cap : Nat) (hb : b < w.heap.size) (h0 : w.cell? ⟨b, o, none⟩ = some (.int .i64 0)) (h1 : w.cell? ⟨b, o + 1, none⟩ = some (.int .i64 2)) (h2 : w.cell? ⟨b, o + 2, none⟩ = some (.int .i64 3)) :
    Calls Try.prog 12 #[.slice (some ⟨b, o, none⟩) 3 cap, .int .u8 4] w fun e w' => e = .returned (.tuple #[.int .i64 2, .int .i64 0]) ∧ w = w' := by
  refine (pick_any (some ⟨b, o, none⟩) cap [0, 2, 3] 4 (by omega) w.heap.size w (by simp [maxLen]) (.inr ⟨b, o, rfl, hb, fun i hi => ?_⟩)).mono ?_
  · match i, hi with
    | 0, _ => exact h0
    | 1, _ => exact h1
    | 2, _ => exact h2
  · rintro e w' ⟨rfl, rfl⟩
    exact ⟨rfl, rfl⟩

theorem fair_w (w0 w : World) (h : Below w0.heap.size w0 w) (z1 z2 z3 z4 : Int) (x : Bool) (hx : fair [z1, z2, z3, z4] 2 2 = x) :
    Calls Try.prog 14 #[.slice (some ⟨w.heap.size, 0, none⟩) 4 4, .int .i64 2, .int .i64 2] (w.alloc (.cells #[.int .i64 z1, .int .i64 z2, .int .i64 z3, .int .i64 z4] 3)) fun e w' => e = .returned (.bool x) ∧ Below w0.heap.size w0 w' := by
  refine (fair_any (some ⟨w.heap.size, 0, none⟩) 4 [z1, z2, z3, z4] 2 2 (by simp) _ (by rw [World.size_alloc]; exact reads_lit w [z1, z2, z3, z4] 3)).mono ?_
  rintro e w' ⟨he, hb⟩
  rw [he, hx]
  exact ⟨rfl, (below_new h _).trans (hb.mono (by have := (below_new h (.cells #[.int .i64 z1, .int .i64 z2, .int .i64 z3, .int .i64 z4] 3)).size; omega))⟩

set_option maxHeartbeats 1000000 in
theorem works_in (w0 w : World) (h : Below w0.heap.size w0 w) :
    Calls Try.prog 11 #[] w fun e w' => e = .returned (.bool true) ∧ Below w0.heap.size w0 w' := by
  have x1 : fair [0, 1, 0, 1] 2 2 = true := by decide
  have x2 : fair [0, 1, 1, 0] 2 2 = false := by decide
  have X1 := Lib.hid x1
  have X2 := Lib.hid x2
  clear x1 x2
  go_enter Try.func11, Try.ntmps11
  go_wp2_with fail
  refine (ready_w w0 w h).mono ?_
  rintro e w1 ⟨b, o, cap, rfl, c0, c1, c2, hb, h1⟩
  go_wp2_with fail
  refine (pick_w _ b o cap hb c0 c1 c2).mono ?_
  rintro e w2 ⟨rfl, rfl⟩
  go_wp2_with fail
  refine (fair_w w0 w1 h1 0 1 0 1 true X1.out).mono ?_
  rintro e w3 ⟨rfl, h3⟩
  go_wp2_with fail
  refine (fair_w w0 w3 h3 0 1 1 0 false X2.out).mono ?_
  rintro e w4 ⟨rfl, h4⟩
  go_wp2_with fail
  go_ret
  exact ⟨rfl, h4⟩
end Go.Proofs.Ytcgjijcjgchhiaa
