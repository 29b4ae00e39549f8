/- The walk of AluBits: bits of two numbers of 32 bits, and moved ones; for any two numbers and any places. -/
import Derived.Test.YthaihlhikjidhaaDiv
namespace Go.Proofs.Ythaihlhikjidhaa
open Go.RowKit

theorem bits_nat (a : Int) (ha : Bd a) : ∃ x : Nat, a = (x : Int) ∧ x < 2 ^ 32 := ⟨a.toNat, by have := ha.1; omega, by have := ha.1; have := ha.2; omega⟩

theorem bits_add (a b : Int) (ha : Bd a) (hb : Bd b) : rv 3 (rv 8 a b) (rv 9 a b) = rv 3 a b := by
  obtain ⟨x, rfl, hx⟩ := bits_nat a ha
  obtain ⟨y, rfl, hy⟩ := bits_nat b hb
  show (((x &&& y : Nat) : Int) + ((x ||| y : Nat) : Int)) % 4294967296 = ((x : Int) + (y : Int)) % 4294967296
  have h := and_add_or x y hx hy
  omega
theorem bits_or (a b : Int) (ha : Bd a) (hb : Bd b) : rv 3 (rv 8 a b) (rv 10 a b) = rv 9 a b := by
  obtain ⟨x, rfl, hx⟩ := bits_nat a ha
  obtain ⟨y, rfl, hy⟩ := bits_nat b hb
  show (((x &&& y : Nat) : Int) + ((x ^^^ y : Nat) : Int)) % 4294967296 = ((x ||| y : Nat) : Int)
  have h := and_add_xor x y hx hy
  have := Nat.or_lt_two_pow hx hy
  omega
theorem bits_xor (a b : Int) (ha : Bd a) (hb : Bd b) : rv 10 (rv 10 a b) b = a := by
  obtain ⟨x, rfl, hx⟩ := bits_nat a ha
  obtain ⟨y, rfl, hy⟩ := bits_nat b hb
  show (((x ^^^ y) ^^^ y : Nat) : Int) = x
  rw [Nat.xor_assoc, Nat.xor_self, Nat.xor_zero]
theorem shl_mod (a n : Int) : rv 11 a n = rv 11 a (n % 32) := by
  show a * 2 ^ (n % 32).toNat % 4294967296 = a * 2 ^ (n % 32 % 32).toNat % 4294967296
  rw [Int.emod_emod]

set_option maxHeartbeats 1000000 in
theorem bits_walk (a b n : Int) (w : World) (wa : (Lit.int .u32 a).wf = true) (wb : (Lit.int .u32 b).wf = true) (wn : (Lit.int .u32 n).wf = true) :
    Calls Try.prog 6 #[.int .u32 a, .int .u32 b, .int .u32 n] w fun e w' => e = .returned (.bool true) ∧ Below w.heap.size w w' := by
  have ha := bd_wf wa
  have hb := bd_wf wb
  have hn := bd_wf wn
  have q1 := rv_bd 8 a b ha hb
  have q2 := rv_bd 9 a b ha hb
  have q3 := rv_bd 10 a b ha hb
  have q4 := rv_bd 11 a n ha hn
  have q5 := rv_bd 12 a n ha hn
  have hk : Bd (n % 32) := by have := hn.1; unfold Bd; omega
  have n1 := hn.1
  have n2 := hn.2
  have a1 := ha.1
  have a2 := ha.2
  clear wa wb wn
  have r1 : (rv 3 (rv 8 a b) (rv 9 a b) != rv 3 a b) = false := by rw [bits_add a b ha hb]; simp
  have r2 : (rv 3 (rv 8 a b) (rv 10 a b) != rv 9 a b) = false := by rw [bits_or a b ha hb]; simp
  have r3 : (rv 10 (rv 10 a b) b != a) = false := by rw [bits_xor a b ha hb]; simp
  have r4 : (rv 12 (rv 11 a n) n == a * 2 ^ (n % 32).toNat % 4294967296 / 2 ^ (n % 32).toNat) = true := beq_iff_eq.2 rfl
  have r5 : (rv 11 (rv 12 a n) n == a / 2 ^ (n % 32).toNat * 2 ^ (n % 32).toNat % 4294967296) = true := beq_iff_eq.2 rfl
  have r6 : (rv 11 a n == rv 11 a (n % 32)) = true := by rw [← shl_mod]; simp
  have hB := Below.refl w.heap.size w
  go_enter Try.func6, Try.ntmps6
  go_wp2_with (first | (go_at_call 12; refine (works_in w _ (by assumption)).mono ?_; rintro e w1 ⟨rfl, hb1⟩) | (go_at_call 13; refine (of_in w _ _ _ (by first | assumption | exact rv_bd _ _ _ (by assumption) (by assumption)) (by first | assumption | exact rv_bd _ _ _ (by assumption) (by assumption)) _ (by assumption)).mono ?_; rintro e w1 ⟨rfl, hb1⟩))
  go_ret
  exact ⟨rfl, by assumption⟩
end Go.Proofs.Ythaihlhikjidhaa
