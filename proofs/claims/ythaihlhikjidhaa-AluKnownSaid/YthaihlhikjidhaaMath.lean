/- Plain arithmetic for the alu laws: what an operation of two numbers of 32 bits makes, and the laws of these numbers; no program in sight. -/
import Derived.Below
namespace Go.Proofs.Ythaihlhikjidhaa

/-- the signed number of a number of 32 bits -/
def sg (a : Int) : Int := if a < 2147483648 then a else a - 4294967296

/-- what operation c makes of a and b -/
def rv (c a b : Int) : Int :=
  if c = 3 then (a + b) % 4294967296 else if c = 4 then (a - b) % 4294967296 else if c = 5 then a * b % 4294967296
  else if c = 6 then (if b = 0 then 0 else a / b) else if c = 7 then (if b = 0 then 0 else a % b)
  else if c = 8 then ((a.toNat &&& b.toNat : Nat) : Int) else if c = 9 then ((a.toNat ||| b.toNat : Nat) : Int) else if c = 10 then ((a.toNat ^^^ b.toNat : Nat) : Int)
  else if c = 11 then a * 2 ^ (b % 32).toNat % 4294967296 else if c = 12 then a / 2 ^ (b % 32).toNat
  else if c = 13 then (if sg a < sg b then 1 else 0) else if c = 14 then (if a < b then 1 else 0) else if c = 15 then (if a = b then 1 else 0) else 0

/-- the trap -/
def tr (c b : Int) : Int := if (c = 6 ∨ c = 7) ∧ b = 0 then 7 else 0
/-- is it an operation -/
def isOp (c : Int) : Bool := decide (3 ≤ c ∧ c ≤ 15)

def Bd (x : Int) : Prop := 0 ≤ x ∧ x < 4294967296
theorem ite_bd {c : Prop} [Decidable c] {x y : Int} (hx : Bd x) (hy : Bd y) : Bd (if c then x else y) := by split <;> assumption
theorem mod_bd (x : Int) : Bd (x % 4294967296) := by unfold Bd; omega
theorem div_bd {a : Int} (b : Int) (ha : Bd a) (hb : 0 ≤ b) : Bd (a / b) :=
  ⟨Int.ediv_nonneg ha.1 hb, Int.lt_of_le_of_lt (Int.ediv_le_self b ha.1) ha.2⟩

theorem rv_bd (c a b : Int) (ha : Bd a) (hb : Bd b) : Bd (rv c a b) := by
  have ha1 := ha.1
  have ha2 := ha.2
  have hb1 := hb.1
  have hb2 := hb.2
  have la : a.toNat < 2 ^ 32 := by omega
  have lb : b.toNat < 2 ^ 32 := by omega
  have h1 := Nat.and_lt_two_pow a.toNat lb
  have h2 := Nat.or_lt_two_pow la lb
  have h3 := Nat.xor_lt_two_pow la lb
  have z : Bd 0 := by unfold Bd; omega
  have o : Bd 1 := by unfold Bd; omega
  unfold rv
  refine ite_bd (mod_bd _) (ite_bd (mod_bd _) (ite_bd (mod_bd _) (ite_bd (ite_bd z (div_bd _ ha hb1)) (ite_bd ?_ (ite_bd ?_ (ite_bd ?_ (ite_bd ?_ (ite_bd (mod_bd _) (ite_bd (div_bd _ ha (Int.le_of_lt (Int.pow_pos (by omega)))) (ite_bd (ite_bd o z) (ite_bd (ite_bd o z) (ite_bd (ite_bd o z) z))))))))))))
  · by_cases h : b = 0
    · rw [if_pos h]; exact z
    · rw [if_neg h]
      have := Int.emod_lt_of_pos a (show 0 < b by omega)
      have := Int.emod_nonneg a h
      unfold Bd; omega
  all_goals unfold Bd; omega

/-! sums of bits -/
def sb : Nat → (Nat → Bool) → Nat
  | 0, _ => 0
  | n + 1, g => sb n g + (g n).toNat * 2 ^ n

theorem sb_mod (x : Nat) : ∀ n, sb n x.testBit = x % 2 ^ n
  | 0 => by simp [sb, Nat.mod_one]
  | n + 1 => by
    rw [sb, sb_mod x n, Nat.mod_pow_succ, Nat.testBit_eq_decide_div_mod_eq]
    have h := Nat.mod_two_eq_zero_or_one (x / 2 ^ n)
    rcases h with h | h <;> rw [h] <;> simp

theorem sb_of_lt {x n : Nat} (h : x < 2 ^ n) : sb n x.testBit = x := by rw [sb_mod, Nat.mod_eq_of_lt h]

theorem sb_congr (n : Nat) {g h : Nat → Bool} (e : ∀ i, g i = h i) : sb n g = sb n h := by rw [show g = h from funext e]

theorem sb_add (n : Nat) (f g h k : Nat → Bool) (e : ∀ i, (f i).toNat + (g i).toNat = (h i).toNat + (k i).toNat) : sb n f + sb n g = sb n h + sb n k := by
  induction n with
  | zero => rfl
  | succ n ih =>
    have := e n
    simp only [sb]
    have e2 : (f n).toNat * 2 ^ n + (g n).toNat * 2 ^ n = (h n).toNat * 2 ^ n + (k n).toNat * 2 ^ n := by rw [← Nat.add_mul, ← Nat.add_mul, this]
    omega

theorem and_add_or (a b : Nat) (ha : a < 2 ^ 32) (hb : b < 2 ^ 32) : (a &&& b) + (a ||| b) = a + b := by
  have h := sb_add 32 (a &&& b).testBit (a ||| b).testBit a.testBit b.testBit (fun i => by
    rw [Nat.testBit_and, Nat.testBit_or]; cases a.testBit i <;> cases b.testBit i <;> rfl)
  rwa [sb_of_lt (Nat.and_lt_two_pow a hb), sb_of_lt (Nat.or_lt_two_pow ha hb), sb_of_lt ha, sb_of_lt hb] at h

theorem and_add_xor (a b : Nat) (ha : a < 2 ^ 32) (hb : b < 2 ^ 32) : (a &&& b) + (a ^^^ b) = (a ||| b) := by
  have h := sb_add 32 (a &&& b).testBit (a ^^^ b).testBit (a ||| b).testBit (0 : Nat).testBit (fun i => by
    rw [Nat.testBit_and, Nat.testBit_xor, Nat.testBit_or]; cases a.testBit i <;> cases b.testBit i <;> simp)
  rwa [sb_of_lt (Nat.and_lt_two_pow a hb), sb_of_lt (Nat.xor_lt_two_pow ha hb), sb_of_lt (Nat.or_lt_two_pow ha hb), sb_of_lt (x := 0) (by omega), Nat.add_zero] at h

end Go.Proofs.Ythaihlhikjidhaa
