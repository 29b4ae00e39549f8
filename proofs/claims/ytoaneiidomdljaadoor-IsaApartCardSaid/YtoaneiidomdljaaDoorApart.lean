/- The walk of IsaApart: for any two instructions. -/
import Derived.Test.YtoaneiidomdljaaDoorBack
namespace Go.Proofs.YtoaneiidomdljaaDoor
open Go.RowKit Go.Shelf

set_option maxHeartbeats 2000000 in
theorem apart_walk (w : World) (ht : Tab w) (op a b c m op' a' b' c' m' : Int) : Calls Tryd.prog 6 #[.agg (insV op a b c m), .agg (insV op' a' b' c' m')] w fun e w' => e = .returned (.bool true) ∧ Below w.heap.size w w' := by
  have b1 := (Below.refl w.heap.size w).alloc (Nat.le_refl _) (.cells (insV op a b c m) 23)
  have i1 : InsAt (w.alloc (.cells (insV op a b c m) 23)) w.heap.size op a b c m := heap_alloc_new _ _
  generalize hw1 : w.alloc (.cells (insV op a b c m) 23) = w1 at b1 i1
  have b2 := b1.alloc b1.size (.cells (insV op' a' b' c' m') 23)
  have i2 := i1.keep ((Below.refl _ _).alloc (Nat.le_refl _) (.cells (insV op' a' b' c' m') 23))
  have j2 : InsAt (w1.alloc (.cells (insV op' a' b' c' m') 23)) w1.heap.size op' a' b' c' m' := heap_alloc_new _ _
  obtain ⟨x, y, hx, hy, hxy⟩ : ∃ x y, encW op a b c m = x ∧ encE op a b c m = y ∧ ((y = 0 ∧ 0 ≤ x ∧ x < 4294967296 ∧ dO x = op ∧ dA x = a ∧ dB x = b ∧ dC x = c ∧ dM x = m) ∨ (y = 2 ∧ x = 0)) := enc_cases _ _ _ _ _
  obtain ⟨x', y', hx', hy', hxy'⟩ : ∃ x y, encW op' a' b' c' m' = x ∧ encE op' a' b' c' m' = y ∧ ((y = 0 ∧ 0 ≤ x ∧ x < 4294967296 ∧ dO x = op' ∧ dA x = a' ∧ dB x = b' ∧ dC x = c' ∧ dM x = m') ∨ (y = 2 ∧ x = 0)) := enc_cases _ _ _ _ _
  have hsz : w1.heap.size = w.heap.size + 1 := by rw [← hw1]; exact World.size_alloc _ _
  rw [hsz] at j2
  clear hsz
  have HX := Lib.hid hx
  have HY := Lib.hid hy
  have HX' := Lib.hid hx'
  have HY' := Lib.hid hy'
  clear hx hy hx' hy'
  have HW1 := Lib.hid hw1
  clear hw1
  go_enter Tryd.func6, Tryd.ntmps6
  go_wp2_with fail
  rw [HW1.out]
  refine (enc_u w _ b2 ht op a b c m x y HX.out HY.out).mono ?_
  rintro e z1 ⟨rfl, h1⟩
  have i3 := i2.keep h1
  have j3 := j2.keep h1
  have b3 := b2.trans (h1.mono b2.size)
  have c3 := j3.cells
  obtain ⟨k0, k1, k2, k3, k4⟩ := c3
  go_wp2_with fail
  refine (enc_u w _ b3 ht op' a' b' c' m' x' y' HX'.out HY'.out).mono ?_
  rintro e z2 ⟨rfl, h2⟩
  have i4 := i3.keep h2
  have j4 := j3.keep h2
  have b4 := b3.trans (h2.mono b3.size)
  clear k0 k1 k2 k3 k4
  obtain ⟨k0, k1, k2, k3, k4⟩ := i4.cells
  obtain ⟨q0, q1, q2, q3, q4⟩ := j4.cells
  rcases hxy with ⟨rfl, _, _, hd⟩ | ⟨rfl, rfl⟩
  · rcases hxy' with ⟨rfl, _, _, hd'⟩ | ⟨rfl, rfl⟩
    · have HD := Lib.hid hd
      have HD' := Lib.hid hd'
      clear hd hd'
      by_cases hs : op = op' ∧ a = a' ∧ b = b' ∧ c = c' ∧ m = m'
      · obtain ⟨rfl, rfl, rfl, rfl, rfl⟩ := hs
        have hxx : x = x' := HX.out.symm.trans HX'.out
        subst hxx
        clear HX HX' HY HY' HD HD'
        go_wp2_with fail
        all_goals
          refine (works_in w _ b4 ht).mono ?_
          rintro e v ⟨rfl, hbv⟩
          go_wp2_with fail
          go_ret
          exact ⟨rfl, hbv⟩
      · have hxx : x ≠ x' := by
          rintro rfl
          obtain ⟨rfl, rfl, rfl, rfl, rfl⟩ := HD.out
          exact hs HD'.out
        have hq : (x == x') = false := by simpa using hxx
        clear hxx
        clear HX HX' HY HY' HD HD'
        go_wp2_with fail
        all_goals
          refine (works_in w _ b4 ht).mono ?_
          rintro e v ⟨rfl, hbv⟩
          go_wp2_with fail
          go_ret
          exact ⟨rfl, hbv⟩
    · go_wp2_with fail
      refine (works_in w _ b4 ht).mono ?_
      rintro e v ⟨rfl, hbv⟩
      go_wp2_with fail
      go_ret
      exact ⟨rfl, hbv⟩
  · go_wp2_with fail
    refine (works_in w _ b4 ht).mono ?_
    rintro e v ⟨rfl, hbv⟩
    go_wp2_with fail
    go_ret
    exact ⟨rfl, hbv⟩
end Go.Proofs.YtoaneiidomdljaaDoor
