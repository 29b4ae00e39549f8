/- The walks of AluDivides and AluBits: for any two (three) numbers of 32 bits. -/
import Derived.Test.YthaihlhikjidhaaOf
namespace Go.Proofs.Ythaihlhikjidhaa
open Go.RowKit

theorem bd_wf {a : Int} (h : (Lit.int .u32 a).wf = true) : Bd a := by
  have hmin : IntKind.u32.min = 0 := rfl
  have hmax : IntKind.u32.max = 4294967295 := rfl
  simp only [Lit.wf, Bool.and_eq_true, decide_eq_true_eq] at h
  unfold Bd
  omega

theorem div_back (a b : Int) (hb : ¬ b = 0) : rv 6 a b * b + rv 7 a b = a := by
  have e1 : rv 6 a b = a / b := by show (if b = 0 then 0 else a / b) = _; rw [if_neg hb]
  have e2 : rv 7 a b = a % b := by show (if b = 0 then 0 else a % b) = _; rw [if_neg hb]
  rw [e1, e2, Int.mul_comm]
  exact Int.mul_ediv_add_emod a b
theorem rem_lt (a b : Int) (hb : Bd b) (hz : ¬ b = 0) : rv 7 a b < b := by
  have e2 : rv 7 a b = a % b := by show (if b = 0 then 0 else a % b) = _; rw [if_neg hz]
  rw [e2]
  exact Int.emod_lt_of_pos a (by have := hb.1; omega)

set_option maxHeartbeats 1000000 in
theorem div_walk_zero (a : Int) (w : World) (ha : Bd a) :
    Calls Try.prog 5 #[.int .u32 a, .int .u32 0] w fun e w' => e = .returned (.bool true) ∧ Below w.heap.size w w' := by
  have h0 : Bd 0 := by unfold Bd; omega
  have r1 : isOp 6 = true := by decide
  have r2 : isOp 7 = true := by decide
  have r3 : (tr 6 0 == 7) = true := by decide
  have r4 : (tr 7 0 == 7) = true := by decide
  have hB := Below.refl w.heap.size w
  go_enter Try.func5, Try.ntmps5
  go_wp2_with (first | (go_at_call 12; refine (works_in w _ (by assumption)).mono ?_; rintro e w1 ⟨rfl, hb1⟩) | (go_at_call 10; refine (reckon_in w _ _ _ (by assumption) (by assumption) _ (by assumption)).mono ?_; rintro e w1 ⟨rfl, hb1⟩))
  go_ret
  exact ⟨rfl, by assumption⟩

set_option maxHeartbeats 1000000 in
theorem div_walk_some (a b : Int) (w : World) (ha : Bd a) (hb : Bd b) (hz : ¬ b = 0) :
    Calls Try.prog 5 #[.int .u32 a, .int .u32 b] w fun e w' => e = .returned (.bool true) ∧ Below w.heap.size w w' := by
  have r0 : (b == 0) = false := by simpa using hz
  have r1 := rem_lt a b hb hz
  have q1 := rv_bd 6 a b ha hb
  have q2 := rv_bd 7 a b ha hb
  have e := div_back a b hz
  have a1 := ha.1
  have a2 := ha.2
  have b1 := hb.1
  have b2 := hb.2
  generalize hq : rv 6 a b = q at *
  generalize hr : rv 7 a b = r at *
  have x1 := q1.1
  have x2 := q1.2
  have y1 := q2.1
  have y2 := q2.2
  have r2 : 0 ≤ q * b := Int.mul_nonneg x1 b1
  have r3 : q * b ≤ a := by omega
  have r4 : (q * b + r == a) = true := by rw [e]; simp
  have HQ := Lib.hid hq
  have HR := Lib.hid hr
  have HE := Lib.hid e
  clear hq hr e
  have hB := Below.refl w.heap.size w
  go_enter Try.func5, Try.ntmps5
  go_wp2_with (first | (go_at_call 12; refine (works_in w _ (by assumption)).mono ?_; rintro e w1 ⟨rfl, hb1⟩) | (go_at_call 13; refine (of_in w _ _ _ (by assumption) (by assumption) _ (by assumption)).mono ?_; rintro e w1 ⟨rfl, hb1⟩; first | rw [HQ.out] | rw [HR.out]))
  go_ret
  exact ⟨rfl, by assumption⟩

theorem div_walk (a b : Int) (w : World) (wa : (Lit.int .u32 a).wf = true) (wb : (Lit.int .u32 b).wf = true) :
    Calls Try.prog 5 #[.int .u32 a, .int .u32 b] w fun e w' => e = .returned (.bool true) ∧ Below w.heap.size w w' := by
  by_cases hz : b = 0
  · subst hz; exact div_walk_zero a w (bd_wf wa)
  · exact div_walk_some a b w (bd_wf wa) (bd_wf wb) hz
end Go.Proofs.Ythaihlhikjidhaa
