/- The walk of AluRing: sums and products of three numbers of 32 bits are a ring's, for any three numbers. -/
import Derived.Test.YthaihlhikjidhaaOf
namespace Go.Proofs.Ythaihlhikjidhaa
open Go.RowKit

theorem bd_of_wf {a : Int} (h : (Lit.int .u32 a).wf = true) : Bd a := by
  have hmin : IntKind.u32.min = 0 := rfl
  have hmax : IntKind.u32.max = 4294967295 := rfl
  simp only [Lit.wf, Bool.and_eq_true, decide_eq_true_eq] at h
  unfold Bd
  omega

theorem ring_add_comm (a b : Int) : rv 3 a b = rv 3 b a := by show (a + b) % _ = (b + a) % _; rw [Int.add_comm]
theorem ring_mul_comm (a b : Int) : rv 5 a b = rv 5 b a := by show a * b % _ = b * a % _; rw [Int.mul_comm]
theorem ring_add_assoc (a b c : Int) : rv 3 (rv 3 a b) c = rv 3 a (rv 3 b c) := by
  show ((a + b) % 4294967296 + c) % 4294967296 = (a + (b + c) % 4294967296) % 4294967296
  omega
theorem mod_mul (x y m : Int) : x % m * y % m = x * y % m := by rw [Int.mul_emod, Int.emod_emod, ← Int.mul_emod]
theorem mul_mod' (x y m : Int) : x * (y % m) % m = x * y % m := by rw [Int.mul_emod, Int.emod_emod, ← Int.mul_emod]
theorem ring_mul_assoc (a b c : Int) : rv 5 (rv 5 a b) c = rv 5 a (rv 5 b c) := by
  show (a * b % 4294967296 * c) % 4294967296 = (a * (b * c % 4294967296)) % 4294967296
  rw [mod_mul, mul_mod', Int.mul_assoc]
theorem ring_dist (a b c : Int) : rv 5 (rv 3 a b) c = rv 3 (rv 5 a c) (rv 5 b c) := by
  show ((a + b) % 4294967296 * c) % 4294967296 = (a * c % 4294967296 + b * c % 4294967296) % 4294967296
  rw [mod_mul, Int.emod_add_emod, Int.add_emod_emod, Int.add_mul]
theorem ring_sub_add (a b : Int) (ha : Bd a) : rv 3 (rv 4 a b) b = a := by
  show ((a - b) % 4294967296 + b) % 4294967296 = a
  have := ha.1
  have := ha.2
  omega
theorem ring_sub_self (a : Int) : rv 4 a a = 0 := by show (a - a) % 4294967296 = 0; omega
theorem ring_mul_one (a : Int) (ha : Bd a) : rv 5 a 1 = a := by
  show a * 1 % 4294967296 = a
  have := ha.1
  have := ha.2
  omega

set_option maxHeartbeats 1000000 in
theorem ring_walk (a b c : Int) (w : World) (wa : (Lit.int .u32 a).wf = true) (wb : (Lit.int .u32 b).wf = true) (wc : (Lit.int .u32 c).wf = true) :
    Calls Try.prog 4 #[.int .u32 a, .int .u32 b, .int .u32 c] w fun e w' => e = .returned (.bool true) ∧ Below w.heap.size w w' := by
  have ha := bd_of_wf wa
  have hb := bd_of_wf wb
  have hc := bd_of_wf wc
  have h1 : Bd 1 := by unfold Bd; omega
  clear wa wb wc
  have r1 : (rv 3 a b != rv 3 b a) = false := by rw [ring_add_comm]; simp
  have r2 : (rv 5 a b != rv 5 b a) = false := by rw [ring_mul_comm]; simp
  have r3 : (rv 3 (rv 3 a b) c != rv 3 a (rv 3 b c)) = false := by rw [ring_add_assoc]; simp
  have r4 : (rv 5 (rv 5 a b) c != rv 5 a (rv 5 b c)) = false := by rw [ring_mul_assoc]; simp
  have r5 : (rv 5 (rv 3 a b) c != rv 3 (rv 5 a c) (rv 5 b c)) = false := by rw [ring_dist]; simp
  have r6 : (rv 3 (rv 4 a b) b == a) = true := by rw [ring_sub_add a b ha]; simp
  have r7 : (rv 4 a a == 0) = true := by rw [ring_sub_self]; rfl
  have r8 : (rv 5 a 1 == a) = true := by rw [ring_mul_one a ha]; simp
  have hB := Below.refl w.heap.size w
  go_enter Try.func4, Try.ntmps4
  go_wp2_with (first | (go_at_call 12; refine (works_in w _ (by assumption)).mono ?_; rintro e w1 ⟨rfl, hb1⟩) | (go_at_call 13; refine (of_in w _ _ _ (by first | assumption | exact rv_bd _ _ _ (by assumption) (by assumption)) (by first | assumption | exact rv_bd _ _ _ (by assumption) (by assumption)) _ (by assumption)).mono ?_; rintro e w1 ⟨rfl, hb1⟩))
  go_ret
  exact ⟨rfl, by assumption⟩
end Go.Proofs.Ythaihlhikjidhaa
