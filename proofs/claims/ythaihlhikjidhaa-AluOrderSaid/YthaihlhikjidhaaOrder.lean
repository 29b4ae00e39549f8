/- The walk of AluOrder: less is an order, with signs and without, and branches go by it; for any three numbers of 32 bits. -/
import Derived.Test.YthaihlhikjidhaaTk
namespace Go.Proofs.Ythaihlhikjidhaa
open Go.RowKit

theorem lt_val (o a b : Int) (ho : o = 13 ∨ o = 14) : rv o a b = 0 ∨ rv o a b = 1 := by
  rcases ho with rfl | rfl
  · show (if sg a < sg b then (1 : Int) else 0) = 0 ∨ (if sg a < sg b then (1 : Int) else 0) = 1
    split <;> simp
  · show (if a < b then (1 : Int) else 0) = 0 ∨ (if a < b then (1 : Int) else 0) = 1
    split <;> simp
theorem sg_inj {a b : Int} (ha : Bd a) (hb : Bd b) (h : sg a = sg b) : a = b := by
  have := ha.1; have := ha.2; have := hb.1; have := hb.2
  unfold sg at h
  split at h <;> split at h <;> omega
/-- just one of: less, greater, the same -/
theorem lt_three (o a b : Int) (ho : o = 13 ∨ o = 14) (ha : Bd a) (hb : Bd b) :
    (rv o a b = 1 ∧ rv o b a = 0 ∧ rv 15 a b = 0) ∨ (rv o a b = 0 ∧ rv o b a = 1 ∧ rv 15 a b = 0) ∨ (rv o a b = 0 ∧ rv o b a = 0 ∧ rv 15 a b = 1) := by
  have e15 : rv 15 a b = if a = b then 1 else 0 := rfl
  rcases ho with rfl | rfl
  · have e1 : rv 13 a b = if sg a < sg b then 1 else 0 := rfl
    have e2 : rv 13 b a = if sg b < sg a then 1 else 0 := rfl
    rw [e1, e2, e15]
    rcases Int.lt_trichotomy (sg a) (sg b) with h | h | h
    · left; rw [if_pos h, if_neg (by omega), if_neg (fun e => by rw [e] at h; omega)]; exact ⟨rfl, rfl, rfl⟩
    · right; right; rw [if_neg (by omega), if_neg (by omega), if_pos (sg_inj ha hb h)]; exact ⟨rfl, rfl, rfl⟩
    · right; left; rw [if_neg (by omega), if_pos h, if_neg (fun e => by rw [e] at h; omega)]; exact ⟨rfl, rfl, rfl⟩
  · have e1 : rv 14 a b = if a < b then 1 else 0 := rfl
    have e2 : rv 14 b a = if b < a then 1 else 0 := rfl
    rw [e1, e2, e15]
    rcases Int.lt_trichotomy a b with h | h | h
    · left; rw [if_pos h, if_neg (by omega), if_neg (by omega)]; exact ⟨rfl, rfl, rfl⟩
    · right; right; rw [if_neg (by omega), if_neg (by omega), if_pos h]; exact ⟨rfl, rfl, rfl⟩
    · right; left; rw [if_neg (by omega), if_pos h, if_neg (by omega)]; exact ⟨rfl, rfl, rfl⟩
theorem lt_trans' (o a b c : Int) (ho : o = 13 ∨ o = 14) (h1 : rv o a b = 1) (h2 : rv o b c = 1) : rv o a c = 1 := by
  rcases ho with rfl | rfl
  · have e1 : (if sg a < sg b then (1 : Int) else 0) = 1 := h1
    have e2 : (if sg b < sg c then (1 : Int) else 0) = 1 := h2
    show (if sg a < sg c then (1 : Int) else 0) = 1
    by_cases g1 : sg a < sg b
    · by_cases g2 : sg b < sg c
      · rw [if_pos (by omega)]
      · rw [if_neg g2] at e2; omega
    · rw [if_neg g1] at e1; omega
  · have e1 : (if a < b then (1 : Int) else 0) = 1 := h1
    have e2 : (if b < c then (1 : Int) else 0) = 1 := h2
    show (if a < c then (1 : Int) else 0) = 1
    by_cases g1 : a < b
    · by_cases g2 : b < c
      · rw [if_pos (by omega)]
      · rw [if_neg g2] at e2; omega
    · rw [if_neg g1] at e1; omega
/-- with signs it is the order of both, half the numbers further on -/
theorem lt_shift (a b : Int) (ha : Bd a) (hb : Bd b) : rv 13 a b = rv 14 ((a + 2147483648) % 4294967296) ((b + 2147483648) % 4294967296) := by
  show (if sg a < sg b then (1 : Int) else 0) = if (a + 2147483648) % 4294967296 < (b + 2147483648) % 4294967296 then 1 else 0
  have := ha.1; have := ha.2; have := hb.1; have := hb.2
  have e : (sg a < sg b) ↔ ((a + 2147483648) % 4294967296 < (b + 2147483648) % 4294967296) := by
    unfold sg
    split <;> split <;> omega
  by_cases h : sg a < sg b
  · rw [if_pos h, if_pos (e.1 h)]
  · rw [if_neg h, if_neg (fun g => h (e.2 g))]

/-- branches, by less and the same -/
theorem tk_vals (a b : Int) :
    (rv 13 a b = 1 ∧ rv 15 a b = 0 ∧ tk 25 a b = false ∧ tk 26 a b = true ∧ tk 27 a b = true ∧ tk 28 a b = false) ∨
    (rv 13 a b = 0 ∧ rv 15 a b = 0 ∧ tk 25 a b = false ∧ tk 26 a b = true ∧ tk 27 a b = false ∧ tk 28 a b = true) ∨
    (rv 13 a b = 0 ∧ rv 15 a b = 1 ∧ tk 25 a b = true ∧ tk 26 a b = false ∧ tk 27 a b = false ∧ tk 28 a b = true) := by
  have e15 : rv 15 a b = if a = b then 1 else 0 := rfl
  have e13 : rv 13 a b = if sg a < sg b then 1 else 0 := rfl
  have t1 : tk 25 a b = (a == b) := rfl
  have t2 : tk 26 a b = !(a == b) := rfl
  have t3 : tk 27 a b = decide (sg a < sg b) := rfl
  have t4 : tk 28 a b = !decide (sg a < sg b) := rfl
  rw [e15, e13, t1, t2, t3, t4]
  by_cases h : a = b
  · subst h
    right; right
    rw [if_neg (Int.lt_irrefl _), if_pos rfl, decide_eq_false (Int.lt_irrefl _)]
    simp
  · have hbeq : (a == b) = false := by simpa using h
    rw [hbeq, if_neg h]
    by_cases g : sg a < sg b
    · left; rw [if_pos g, decide_eq_true g]; simp
    · right; left; rw [if_neg g, decide_eq_false g]; simp

set_option maxRecDepth 100000 in
set_option maxHeartbeats 4000000 in
theorem order_walk (a b c : Int) (w : World) (wa : (Lit.int .u32 a).wf = true) (wb : (Lit.int .u32 b).wf = true) (wc : (Lit.int .u32 c).wf = true) :
    Calls Try.prog 8 #[.int .u32 a, .int .u32 b, .int .u32 c] w fun e w' => e = .returned (.bool true) ∧ Below w.heap.size w w' := by
  have ha := bd_wf wa
  have hb := bd_wf wb
  have hc := bd_wf wc
  have a1 := ha.1
  have a2 := ha.2
  have b1 := hb.1
  have b2 := hb.2
  have sa := mod_bd (a + 2147483648)
  have sb := mod_bd (b + 2147483648)
  have HS := Lib.hid (lt_shift a b ha hb)
  clear wa wb wc
  go_enter Try.func8, Try.ntmps8
  go_wp2
  go_loopw [7] (fun i wr => ∃ k : Nat, k ≤ 2 ∧ i = .int .i64 k ∧ Below w.heap.size w wr) (fun i _ => 2 - (intOf i).toNat)
  case atStart => exact ⟨0, by omega, rfl, Below.refl _ _⟩
  case round =>
    obtain ⟨k, hk, rfl, hB⟩ := hrel
    by_cases k2 : k = 2
    · subst k2
      have s1 : isTk 25 = true := by decide
      have s2 : isTk 26 = true := by decide
      have s3 : isTk 27 = true := by decide
      have s4 : isTk 28 = true := by decide
      rcases tk_vals a b with ⟨v1, v2, t1, t2, t3, t4⟩ | ⟨v1, v2, t1, t2, t3, t4⟩ | ⟨v1, v2, t1, t2, t3, t4⟩
      all_goals
        go_wp2_with (first | (go_at_call 12; refine (works_in w _ (by assumption)).mono ?_; rintro e w1 ⟨rfl, hb1⟩) | (go_at_call 13; refine (of_in w _ _ _ (by assumption) (by assumption) _ (by assumption)).mono ?_; rintro e w1 ⟨rfl, hb1⟩) | (go_at_call 14; refine (tk_any _ _ _ ha hb _).mono ?_; rintro e w1 ⟨rfl, rfl⟩))
        go_ret
        exact ⟨rfl, by assumption⟩
    · by_cases k0 : k = 0
      · subst k0
        rcases lt_three 13 a b (.inl rfl) ha hb with ⟨h1, h2, h3⟩ | ⟨h1, h2, h3⟩ | ⟨h1, h2, h3⟩
        all_goals
          have hs := HS.out
          rw [h1] at hs
          have hs' := hs.symm
          clear hs
          rcases lt_val 13 b c (.inl rfl) with h4 | h4
          all_goals
            rcases lt_val 13 a c (.inl rfl) with h5 | h5
            all_goals
              first
                | (exfalso; have g := lt_trans' 13 a b c (.inl rfl) h1 h4; rw [h5] at g; exact absurd g (by decide))
                | (go_wp2_with (first | (go_at_call 13; refine (of_in w _ _ _ (by assumption) (by assumption) _ (by first | assumption | exact Below.alloc (by assumption) (by have := hB.size; omega) _)).mono ?_; rintro e w1 ⟨rfl, hb1⟩))
                   go_roundw
                   case rel => exact ⟨1, by omega, rfl, by assumption⟩
                   case measure => simp [intOf])
      · obtain rfl : k = 1 := by omega
        clear HS
        rcases lt_three 14 a b (.inr rfl) ha hb with ⟨h1, h2, h3⟩ | ⟨h1, h2, h3⟩ | ⟨h1, h2, h3⟩
        all_goals
          rcases lt_val 14 b c (.inr rfl) with h4 | h4
          all_goals
            rcases lt_val 14 a c (.inr rfl) with h5 | h5
            all_goals
              first
                | (exfalso; have g := lt_trans' 14 a b c (.inr rfl) h1 h4; rw [h5] at g; exact absurd g (by decide))
                | (go_wp2_with (first | (go_at_call 13; refine (of_in w _ _ _ (by assumption) (by assumption) _ (by first | assumption | exact Below.alloc (by assumption) (by have := hB.size; omega) _)).mono ?_; rintro e w1 ⟨rfl, hb1⟩))
                   go_roundw
                   case rel => exact ⟨2, by omega, rfl, by assumption⟩
                   case measure => simp [intOf])
end Go.Proofs.Ythaihlhikjidhaa
