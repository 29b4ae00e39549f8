/- The walk of SchedKnown: the chapter's examples (a closed statement). -/
import Derived.Test.YtcgjijcjgchhiaaPicks
namespace Go.Proofs.Ytcgjijcjgchhiaa
open Go.RowKit Go.Shelf Go.Maps

theorem fair_lit (w0 w : World) (h : Below w0.heap.size w0 w) (zs : List Int) (n : Nat) (hl : zs.length = n) (hn : n ≤ 100) (C : Array Value) (hC : C = (zs.map (Value.int .i64)).toArray) (ag most : Int) (x : Bool) (hx : fair zs ag most = x) :
    Calls Try.prog 14 #[.slice (some ⟨w.heap.size, 0, none⟩) n n, .int .i64 ag, .int .i64 most] (w.alloc (.cells C 3)) fun e w' => e = .returned (.bool x) ∧ Below w0.heap.size w0 w' := by
  subst hl hC
  refine (fair_any (some ⟨w.heap.size, 0, none⟩) zs.length zs ag most (by omega) _ (by rw [World.size_alloc]; exact reads_lit w zs 3)).mono ?_
  rintro e w' ⟨he, hb⟩
  rw [he, hx]
  exact ⟨rfl, (below_new h _).trans (hb.mono (by have := (below_new h (.cells (zs.map (Value.int .i64)).toArray 3)).size; omega))⟩

theorem fair_nil (w0 w : World) (h : Below w0.heap.size w0 w) (ag most : Int) (x : Bool) (hx : fair [] ag most = x) :
    Calls Try.prog 14 #[.slice none 0 0, .int .i64 ag, .int .i64 most] w fun e w' => e = .returned (.bool x) ∧ Below w0.heap.size w0 w' := by
  refine (fair_any none 0 [] ag most (by simp) w (.inl rfl)).mono ?_
  rintro e w' ⟨he, hb⟩
  rw [he, hx]
  exact ⟨rfl, h.trans (hb.mono h.size)⟩

theorem ready_nil_false (w0 w : World) (h : Below w0.heap.size w0 w) :
    Calls Try.prog 9 #[.slice none 0 0, .bool false] w fun e w' => ∃ a cap, e = .returned (.slice a 0 cap) ∧ Below w0.heap.size w0 w' := by
  refine (ready_any none 0 [] false (by simp) w (.inl rfl)).mono ?_
  rintro e w' ⟨v, rfl, ⟨a, cap, rfl, _⟩, hb⟩
  exact ⟨a, cap, rfl, h.trans (hb.mono h.size)⟩
theorem ready_nil_true (w0 w : World) (h : Below w0.heap.size w0 w) :
    Calls Try.prog 9 #[.slice none 0 0, .bool true] w fun e w' => ∃ b o cap, e = .returned (.slice (some ⟨b, o, none⟩) 1 cap) ∧ w'.cell? ⟨b, o, none⟩ = some (.int .i64 0) ∧ Below w0.heap.size w0 w' := by
  refine (ready_any none 0 [] true (by simp) w (.inl rfl)).mono ?_
  rintro e w' ⟨v, rfl, ⟨a, cap, rfl, hr⟩, hb⟩
  have e1 : rd [] true = [0] := by decide
  rw [e1] at hr ⊢
  rcases hr with hr | ⟨b, o, rfl, hlt, hc⟩
  · cases hr
  · exact ⟨b, o, cap, rfl, hc 0 (by simp), h.trans (hb.mono h.size)⟩
theorem ready_lit (w0 w : World) (h : Below w0.heap.size w0 w) (zs : List Int) (n : Nat) (hl : zs.length = n) (hn : n ≤ 100) (C : Array Value) (hC : C = (zs.map (Value.int .i64)).toArray) (hx : rd zs false = []) :
    Calls Try.prog 9 #[.slice (some ⟨w.heap.size, 0, none⟩) n n, .bool false] (w.alloc (.cells C 3)) fun e w' => ∃ a cap, e = .returned (.slice a 0 cap) ∧ Below w0.heap.size w0 w' := by
  subst hl hC
  refine (ready_any (some ⟨w.heap.size, 0, none⟩) zs.length zs false (by omega) _ (by rw [World.size_alloc]; exact reads_lit w zs 3)).mono ?_
  rintro e w' ⟨v, rfl, ⟨a, cap, rfl, hr⟩, hb⟩
  rw [hx]
  exact ⟨a, cap, rfl, (below_new h _).trans (hb.mono (by have := (below_new h (.cells (zs.map (Value.int .i64)).toArray 3)).size; omega))⟩

theorem pick_lit (w0 w : World) (h : Below w0.heap.size w0 w) :
    Calls Try.prog 12 #[.slice (some ⟨w.heap.size, 0, none⟩) 3 3, .int .u8 255] (w.alloc (.cells #[.int .i64 0, .int .i64 2, .int .i64 3] 3)) fun e w' => e = .returned (.tuple #[.int .i64 0, .int .i64 0]) ∧ Below w0.heap.size w0 w' := by
  refine (pick_any (some ⟨w.heap.size, 0, none⟩) 3 [0, 2, 3] 255 (by omega) (w.heap.size + 1) _ (by simp [maxLen]) (reads_lit w [0, 2, 3] 3)).mono ?_
  rintro e w' ⟨rfl, rfl⟩
  exact ⟨rfl, below_new h _⟩
theorem pick_nil (w : World) : Calls Try.prog 12 #[.slice none 0 0, .int .u8 1] w fun e w' => e = .returned (.tuple #[.int .i64 0, .int .i64 14]) ∧ w = w' := by
  refine (pick_any none 0 [] 1 (by omega) 0 _ (by simp [maxLen]) (.inl rfl)).mono ?_
  rintro e w' ⟨rfl, rfl⟩
  exact ⟨rfl, rfl⟩

set_option maxRecDepth 100000 in
set_option maxHeartbeats 4000000 in
theorem known_walk (w : World) : Calls Try.prog 8 #[] w fun e w' => e = .returned (.bool true) ∧ Below w.heap.size w w' := by
  have x1 := Lib.hid (show fair [0, 1, 1, 0] 2 3 = true by decide)
  have x2 := Lib.hid (show fair [] 5 1 = true by decide)
  have x3 := Lib.hid (show fair [0] 2 1 = false by decide)
  have x4 := Lib.hid (show fair [0] 2 2 = true by decide)
  have x5 := Lib.hid (show fair [] 0 0 = false by decide)
  have x6 := Lib.hid (show fair [] (-1) 1 = false by decide)
  have x7 := Lib.hid (show fair [7, -3] 0 1 = true by decide)
  have x8 := Lib.hid (show fair [7, -3] 1 2 = false by decide)
  have y1 := Lib.hid (show rd [1, 2, 3, 4, -1, 99] false = [] by decide)
  go_enter Try.func8, Try.ntmps8
  go_wp2_with fail
  refine (pick_lit w w (Below.refl _ _)).mono ?_
  rintro e w1 ⟨rfl, h1⟩
  go_wp2_with fail
  refine (pick_nil _).mono ?_
  rintro e w2 ⟨rfl, rfl⟩
  go_wp2_with fail
  refine (ready_nil_false w _ h1).mono ?_
  rintro e w3 ⟨a3, c3, rfl, h3⟩
  go_wp2_with fail
  refine (ready_nil_true w _ h3).mono ?_
  rintro e w4 ⟨b4, o4, c4, rfl, g4, h4⟩
  have hb4 : b4 < w4.heap.size := World.block_lt_of_cell? _ _ g4
  go_wp2_with fail
  refine (ready_lit w _ h4 [1, 2, 3, 4, -1, 99] 6 rfl (by omega) _ rfl y1.out).mono ?_
  rintro e w5 ⟨a5, c5, rfl, h5⟩
  go_wp2_with fail
  refine (fair_lit w _ h5 [0, 1, 1, 0] 4 rfl (by omega) _ rfl 2 3 true x1.out).mono ?_
  rintro e w6 ⟨rfl, h6⟩
  go_wp2_with fail
  refine (fair_nil w _ h6 5 1 true x2.out).mono ?_
  rintro e w7 ⟨rfl, h7⟩
  go_wp2_with fail
  refine (fair_lit w _ h7 [0] 1 rfl (by omega) _ rfl 2 1 false x3.out).mono ?_
  rintro e w8 ⟨rfl, h8⟩
  go_wp2_with fail
  refine (fair_lit w _ h8 [0] 1 rfl (by omega) _ rfl 2 2 true x4.out).mono ?_
  rintro e w9 ⟨rfl, h9⟩
  go_wp2_with fail
  refine (fair_nil w _ h9 0 0 false x5.out).mono ?_
  rintro e w10 ⟨rfl, h10⟩
  go_wp2_with fail
  refine (fair_nil w _ h10 (-1) 1 false x6.out).mono ?_
  rintro e w11 ⟨rfl, h11⟩
  go_wp2_with fail
  refine (fair_lit w _ h11 [7, -3] 2 rfl (by omega) _ rfl 0 1 true x7.out).mono ?_
  rintro e w12 ⟨rfl, h12⟩
  go_wp2_with fail
  refine (fair_lit w _ h12 [7, -3] 2 rfl (by omega) _ rfl 1 2 false x8.out).mono ?_
  rintro e w13 ⟨rfl, h13⟩
  go_wp2_with fail
  refine (works_in w _ h13).mono ?_
  rintro e w14 ⟨rfl, h14⟩
  go_wp2_with fail
  go_ret
  exact ⟨rfl, h14⟩
end Go.Proofs.Ytcgjijcjgchhiaa
