/- The walk of IsaBack: for every word and every instruction. -/
import Derived.Test.YtoaneiidomdljaaDoorLaws
import Derived.Test.YtoaneiidomdljaaDoorBackM
import Derived.Deep.RegionWith
namespace Go.Proofs.YtoaneiidomdljaaDoor
open Go.RowKit Go.Shelf

/-- Encode and Decode: nothing that existed is changed -/
theorem enc_u (w0 u : World) (hb : Below w0.heap.size w0 u) (ht : Tab w0) (op a b c m v x : Int) (hv : encW op a b c m = v) (hx : encE op a b c m = x) :
    Calls Tryd.prog 10 #[.agg (insV op a b c m)] u fun e z => e = .returned (.tuple #[.int .u32 v, .int .i64 x]) ∧ Below u.heap.size u z := by
  subst hv hx
  exact enc_in u u (Below.refl _ _) (ht.below hb) op a b c m
theorem dec_u (w0 u : World) (hb : Below w0.heap.size w0 u) (ht : Tab w0) (W op a b c m : Int) (hW0 : 0 ≤ W) (hW1 : W < 4294967296) (hd : dO W = op ∧ dA W = a ∧ dB W = b ∧ dC W = c ∧ dM W = m) :
    Calls Tryd.prog 13 #[.int .u32 W] u fun e z => e = .returned (.agg (insV op a b c m)) ∧ Below u.heap.size u z := by
  obtain ⟨rfl, rfl, rfl, rfl, rfl⟩ := hd
  exact dec_in u u (Below.refl _ _) (ht.below hb) W hW0 hW1
theorem works_u (w0 u : World) (hb : Below w0.heap.size w0 u) (ht : Tab w0) :
    Calls Tryd.prog 12 #[] u fun e z => e = .returned (.bool true) ∧ Below u.heap.size u z :=
  works_in u u (Below.refl _ _) (ht.below hb)

theorem enc_cases (op a b c m : Int) : ∃ x y, encW op a b c m = x ∧ encE op a b c m = y ∧ ((y = 0 ∧ 0 ≤ x ∧ x < 4294967296 ∧ dO x = op ∧ dA x = a ∧ dB x = b ∧ dC x = c ∧ dM x = m) ∨ (y = 2 ∧ x = 0)) := by
  refine ⟨_, _, rfl, rfl, ?_⟩
  by_cases h : mayB op a b c m = true
  · have e : encE op a b c m = 0 := if_pos h
    obtain ⟨hb, hr⟩ := dec_enc e
    exact .inl ⟨e, hb.1, hb.2, hr⟩
  · exact .inr ⟨if_neg h, if_neg h⟩

/-- what stands in an instruction's block -/
def InsAt (u : World) (B : Nat) (op a b c m : Int) : Prop := u.heap[B]? = some (.cells (insV op a b c m) 23 (0, 0))
theorem InsAt.cells {u : World} {B : Nat} {op a b c m : Int} (h : InsAt u B op a b c m) :
    u.cell? ⟨B, 0, none⟩ = some (.int .i64 op) ∧ u.cell? ⟨B, 1, none⟩ = some (.int .i64 a) ∧ u.cell? ⟨B, 2, none⟩ = some (.int .i64 b) ∧ u.cell? ⟨B, 3, none⟩ = some (.int .i64 c) ∧ u.cell? ⟨B, 4, none⟩ = some (.int .i64 m) :=
  ⟨(cell_of_row u _ 0 _ _ _ h).trans rfl, (cell_of_row u _ 1 _ _ _ h).trans rfl, (cell_of_row u _ 2 _ _ _ h).trans rfl, (cell_of_row u _ 3 _ _ _ h).trans rfl, (cell_of_row u _ 4 _ _ _ h).trans rfl⟩
theorem InsAt.keep {u z : World} {B : Nat} {op a b c m : Int} (h : InsAt u B op a b c m) (hb : Below u.heap.size u z) : InsAt z B op a b c m := by
  unfold InsAt
  rw [hb.block _ (lt_of_block h)]; exact h

/-- the last line: the instruction is read again, and works() is asked, in whatever order -/
theorem back_dec (w0 u : World) (B : Nat) {op a b c m : Int} (hi : InsAt u B op a b c m) (hb : Below w0.heap.size w0 u) (ht : Tab w0) (x : Int) (hx : 0 ≤ x ∧ x < 4294967296) (hd : dO x = op ∧ dA x = a ∧ dB x = b ∧ dC x = c ∧ dM x = m) :
    Calls Tryd.prog 13 #[.int .u32 x] u.drew fun e z => e = .returned (.agg (insV op a b c m)) ∧ (z.cell? ⟨B, 0, none⟩ = some (.int .i64 op) ∧ z.cell? ⟨B, 1, none⟩ = some (.int .i64 a) ∧ z.cell? ⟨B, 2, none⟩ = some (.int .i64 b) ∧ z.cell? ⟨B, 3, none⟩ = some (.int .i64 c) ∧ z.cell? ⟨B, 4, none⟩ = some (.int .i64 m)) ∧ Below w0.heap.size w0 z := by
  refine (dec_u w0 u.drew (drew_below hb) ht x op a b c m hx.1 hx.2 hd).mono ?_
  rintro e z ⟨rfl, h⟩
  exact ⟨rfl, (InsAt.keep (u := u.drew) hi h).cells, (drew_below hb).trans (h.mono (drew_below hb).size)⟩

set_option maxHeartbeats 2000000 in
theorem back_walk (w : World) (ht : Tab w) (W : Int) (hW : (Lit.int .u32 W).wf = true) (op a b c m : Int) : Calls Tryd.prog 5 #[.int .u32 W, .agg (insV op a b c m)] w fun e w' => e = .returned (.bool true) ∧ Below w.heap.size w w' := by
  obtain ⟨hW0, hW1⟩ := bd_wf hW
  clear hW
  have b1 := (Below.refl w.heap.size w).alloc (Nat.le_refl _) (.cells (insV op a b c m) 23)
  have i1 : InsAt (w.alloc (.cells (insV op a b c m) 23)) w.heap.size op a b c m := heap_alloc_new _ _
  obtain ⟨o', a', b', c', m', hd⟩ : ∃ o' a' b' c' m', dO W = o' ∧ dA W = a' ∧ dB W = b' ∧ dC W = c' ∧ dM W = m' := ⟨_, _, _, _, _, rfl, rfl, rfl, rfl, rfl⟩
  have HD := Lib.hid hd
  clear hd
  go_enter Tryd.func5, Tryd.ntmps5
  go_wp2_with fail
  refine (dec_u w _ b1 ht W o' a' b' c' m' hW0 hW1 HD.out).mono ?_
  rintro e z1 ⟨rfl, h1⟩
  have i2 := i1.keep h1
  have b2 := b1.trans (h1.mono b1.size)
  obtain ⟨k0, k1, k2, k3, k4⟩ := i2.cells
  go_wp2_with fail
  have i3 : InsAt (z1.alloc (.cells (insV o' a' b' c' m') 23)) z1.heap.size o' a' b' c' m' := heap_alloc_new _ _
  have i4 : InsAt (z1.alloc (.cells (insV o' a' b' c' m') 23)) w.heap.size op a b c m := i2.keep ((Below.refl _ _).alloc (Nat.le_refl _) _)
  have b3 := b2.alloc b2.size (.cells (insV o' a' b' c' m') 23)
  obtain ⟨x, y, hx, hy, hxy⟩ : ∃ x y, encW op a b c m = x ∧ encE op a b c m = y ∧ ((y = 0 ∧ 0 ≤ x ∧ x < 4294967296 ∧ dO x = op ∧ dA x = a ∧ dB x = b ∧ dC x = c ∧ dM x = m) ∨ (y = 2 ∧ x = 0)) := enc_cases _ _ _ _ _
  have HX := Lib.hid hx
  have HY := Lib.hid hy
  clear hx hy
  have hed : (1 ≤ o' ∧ encE o' a' b' c' m' = 0 ∧ encW o' a' b' c' m' = W) ∨ (o' = 0 ∧ a' = 0 ∧ b' = 0 ∧ c' = 0 ∧ m' = 0) := by
    obtain ⟨rfl, rfl, rfl, rfl, rfl⟩ := HD.out
    rcases enc_dec W with ⟨_, h1, _, h2, h3⟩ | ⟨_, h⟩
    · exact .inl ⟨h1, h2, h3⟩
    · exact .inr h
  clear HD
  rcases hed with ⟨ho, he, hw⟩ | ⟨rfl, rfl, rfl, rfl, rfl⟩
  · have HE := Lib.hid he
    have HW := Lib.hid hw
    clear he hw
    refine (enc_u w _ b3 ht o' a' b' c' m' W 0 HW.out HE.out).mono ?_
    rintro e z2 ⟨rfl, h2⟩
    have i5 := i3.keep h2
    have i6 := i4.keep h2
    have b4 := b3.trans (h2.mono b3.size)
    obtain ⟨k0, k1, k2, k3, k4⟩ := i5.cells
    obtain ⟨q0, q1, q2, q3, q4⟩ := i6.cells
    go_wp2_with fail
    refine (enc_u w _ b4 ht op a b c m x y HX.out HY.out).mono ?_
    rintro e z3 ⟨rfl, h3⟩
    have i7 := i6.keep h3
    have b5 := b4.trans (h3.mono b4.size)
    clear k0 k1 k2 k3 k4 q0 q1 q2 q3 q4
    obtain ⟨q0, q1, q2, q3, q4⟩ := i7.cells
    rcases hxy with ⟨rfl, hx0, hx1, hd⟩ | ⟨rfl, rfl⟩
    · go_wp2_with fail
      go_region_with (first | (go_at_call 13; refine (back_dec w z3 w.heap.size i7 b5 ht x ⟨hx0, hx1⟩ hd).mono ?_; rintro e u ⟨rfl, ⟨q0, q1, q2, q3, q4⟩, hbu⟩) | (go_at_call 12; refine (works_in w _ (by assumption) ht).mono ?_; rintro e v ⟨rfl, hbv⟩))
      all_goals go_wp2
      all_goals go_ret
      all_goals exact ⟨rfl, by assumption⟩
    · go_wp2_with fail
      refine (works_in w _ b5 ht).mono ?_
      rintro e v ⟨rfl, hbv⟩
      go_wp2_with fail
      go_ret
      exact ⟨rfl, hbv⟩
  · refine (enc_u w _ b3 ht 0 0 0 0 0 0 2 enc_zero.2 enc_zero.1).mono ?_
    rintro e z2 ⟨rfl, h2⟩
    have i5 := i3.keep h2
    have i6 := i4.keep h2
    have b4 := b3.trans (h2.mono b3.size)
    obtain ⟨k0, k1, k2, k3, k4⟩ := i5.cells
    obtain ⟨q0, q1, q2, q3, q4⟩ := i6.cells
    go_wp2_with fail
    refine (enc_u w _ b4 ht op a b c m x y HX.out HY.out).mono ?_
    rintro e z3 ⟨rfl, h3⟩
    have i7 := i6.keep h3
    have b5 := b4.trans (h3.mono b4.size)
    clear k0 k1 k2 k3 k4 q0 q1 q2 q3 q4
    obtain ⟨q0, q1, q2, q3, q4⟩ := i7.cells
    rcases hxy with ⟨rfl, hx0, hx1, hd⟩ | ⟨rfl, rfl⟩
    · go_wp2_with fail
      go_region_with (first | (go_at_call 13; refine (back_dec w z3 w.heap.size i7 b5 ht x ⟨hx0, hx1⟩ hd).mono ?_; rintro e u ⟨rfl, ⟨q0, q1, q2, q3, q4⟩, hbu⟩) | (go_at_call 12; refine (works_in w _ (by assumption) ht).mono ?_; rintro e v ⟨rfl, hbv⟩))
      all_goals go_wp2
      all_goals go_ret
      all_goals exact ⟨rfl, by assumption⟩
    · go_wp2_with fail
      refine (works_in w _ b5 ht).mono ?_
      rintro e v ⟨rfl, hbv⟩
      go_wp2_with fail
      go_ret
      exact ⟨rfl, hbv⟩
end Go.Proofs.YtoaneiidomdljaaDoor
