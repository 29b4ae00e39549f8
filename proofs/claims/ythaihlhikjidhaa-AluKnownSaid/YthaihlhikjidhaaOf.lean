/- What alu.Reckon and the helpers of the alu statements answer: for any operation and any two numbers of 32 bits. -/
import Derived.Test.YthaihlhikjidhaaReck
import Derived.Test.YthaihlhikjidhaaMath
import Derived.Laws.BitsAllLaws
namespace Go.Proofs.Ythaihlhikjidhaa
open Go.RowKit

theorem ret_u32 {a b : Int} (h : a = b) : Ending.returned (.int .u32 a) = .returned (.int .u32 b) := by rw [h]

theorem wrap32_sg (a : Int) (h : Bd a) : wrap32 a = sg a := by
  have := h.1
  have := h.2
  unfold wrap32 sg
  split <;> omega

/-- what the operation at place k makes (the divisions by what is not 0) -/
theorem op22_any (a b : Int) (w : World) : Calls Try.prog 22 #[.int .u32 a, .int .u32 b] w fun e w' => e = .returned (.int .u32 (rv 3 a b)) ∧ w = w' := by
  go_enter Try.func22, Try.ntmps22
  go_wp2
  go_ret
  exact ⟨rfl, rfl⟩
theorem op23_any (a b : Int) (w : World) : Calls Try.prog 23 #[.int .u32 a, .int .u32 b] w fun e w' => e = .returned (.int .u32 (rv 4 a b)) ∧ w = w' := by
  go_enter Try.func23, Try.ntmps23
  go_wp2
  go_ret
  exact ⟨rfl, rfl⟩
theorem op24_any (a b : Int) (w : World) : Calls Try.prog 24 #[.int .u32 a, .int .u32 b] w fun e w' => e = .returned (.int .u32 (rv 5 a b)) ∧ w = w' := by
  go_enter Try.func24, Try.ntmps24
  go_wp2
  go_ret
  exact ⟨rfl, rfl⟩
theorem op25_any (a b : Int) (ha : Bd a) (hb : Bd b) (hz : ¬ b = 0) (w : World) : Calls Try.prog 25 #[.int .u32 a, .int .u32 b] w fun e w' => e = .returned (.int .u32 (rv 6 a b)) ∧ w = w' := by
  have e : rv 6 a b = a / b := by show (if b = 0 then 0 else a / b) = _; rw [if_neg hz]
  rw [e]
  clear e
  have ha1 := ha.1
  have ha2 := ha.2
  have hb1 : 1 ≤ b := by have := hb.1; omega
  have hb2 := hb.2
  clear ha hb
  go_enter Try.func25, Try.ntmps25
  go_wp2
  go_ret
  exact ⟨rfl, rfl⟩
theorem op26_any (a b : Int) (ha : Bd a) (hb : Bd b) (hz : ¬ b = 0) (w : World) : Calls Try.prog 26 #[.int .u32 a, .int .u32 b] w fun e w' => e = .returned (.int .u32 (rv 7 a b)) ∧ w = w' := by
  have e : rv 7 a b = a % b := by show (if b = 0 then 0 else a % b) = _; rw [if_neg hz]
  rw [e]
  clear e
  have ha1 := ha.1
  have ha2 := ha.2
  have hb1 : 1 ≤ b := by have := hb.1; omega
  have hb2 := hb.2
  clear ha hb
  go_enter Try.func26, Try.ntmps26
  go_wp2
  go_ret
  exact ⟨rfl, rfl⟩
theorem op25_zero (a : Int) (w : World) : Calls Try.prog 25 #[.int .u32 a, .int .u32 0] w fun e w' => e = .panicked [{ v := .iface 10 (strVal "integer divide by zero"), recovered := false }] ∧ w = w' := by
  go_enter Try.func25, Try.ntmps25
  go_wp2
  exact ⟨rfl, rfl, rfl⟩
theorem op26_zero (a : Int) (w : World) : Calls Try.prog 26 #[.int .u32 a, .int .u32 0] w fun e w' => e = .panicked [{ v := .iface 10 (strVal "integer divide by zero"), recovered := false }] ∧ w = w' := by
  go_enter Try.func26, Try.ntmps26
  go_wp2
  exact ⟨rfl, rfl, rfl⟩
theorem op27_any (a b : Int) (ha : Bd a) (hb : Bd b) (w : World) : Calls Try.prog 27 #[.int .u32 a, .int .u32 b] w fun e w' => e = .returned (.int .u32 (rv 8 a b)) ∧ w = w' := by
  have h := u32_and a b ha.1 ha.2 hb.1 hb.2
  have H := Lib.hid h
  clear h
  go_enter Try.func27, Try.ntmps27
  go_wp2
  go_ret
  exact ⟨ret_u32 H.out, rfl⟩
theorem op28_any (a b : Int) (ha : Bd a) (hb : Bd b) (w : World) : Calls Try.prog 28 #[.int .u32 a, .int .u32 b] w fun e w' => e = .returned (.int .u32 (rv 9 a b)) ∧ w = w' := by
  have h := u32_or a b ha.1 ha.2 hb.1 hb.2
  have H := Lib.hid h
  clear h
  go_enter Try.func28, Try.ntmps28
  go_wp2
  go_ret
  exact ⟨ret_u32 H.out, rfl⟩
theorem op29_any (a b : Int) (ha : Bd a) (hb : Bd b) (w : World) : Calls Try.prog 29 #[.int .u32 a, .int .u32 b] w fun e w' => e = .returned (.int .u32 (rv 10 a b)) ∧ w = w' := by
  have h := u32_xor a b ha.1 ha.2 hb.1 hb.2
  have H := Lib.hid h
  clear h
  go_enter Try.func29, Try.ntmps29
  go_wp2
  go_ret
  exact ⟨ret_u32 H.out, rfl⟩
theorem op30_any (a b : Int) (ha : Bd a) (hb : Bd b) (w : World) : Calls Try.prog 30 #[.int .u32 a, .int .u32 b] w fun e w' => e = .returned (.int .u32 (rv 11 a b)) ∧ w = w' := by
  have ha1 := ha.1
  have ha2 := ha.2
  have hb1 := hb.1
  have hb2 := hb.2
  clear ha hb
  go_enter Try.func30, Try.ntmps30
  go_wp2
  go_ret
  exact ⟨rfl, rfl⟩
theorem op31_any (a b : Int) (ha : Bd a) (hb : Bd b) (w : World) : Calls Try.prog 31 #[.int .u32 a, .int .u32 b] w fun e w' => e = .returned (.int .u32 (rv 12 a b)) ∧ w = w' := by
  have ha1 := ha.1
  have ha2 := ha.2
  have hb1 := hb.1
  have hb2 := hb.2
  clear ha hb
  go_enter Try.func31, Try.ntmps31
  go_wp2
  go_ret
  exact ⟨rfl, rfl⟩
theorem signed_any (a b : Int) (ha : Bd a) (hb : Bd b) (w : World) : Calls Try.prog 21 #[.int .u32 a, .int .u32 b] w fun e w' => e = .returned (.bool (decide (sg a < sg b))) ∧ w = w' := by
  rw [← wrap32_sg a ha, ← wrap32_sg b hb]
  clear ha hb
  go_enter Try.func21, Try.ntmps21
  go_wp2
  go_ret
  exact ⟨rfl, rfl⟩
def b2i (x : Bool) : Int := if x = true then 1 else 0
theorem one_any (x : Bool) (w : World) : Calls Try.prog 33 #[.bool x] w fun e w' => e = .returned (.int .u32 (b2i x)) ∧ w = w' := by
  cases x
  all_goals
    go_enter Try.func33, Try.ntmps33
    go_wp2
    go_ret
    exact ⟨rfl, rfl⟩
theorem op32_any (a b : Int) (ha : Bd a) (hb : Bd b) (w : World) : Calls Try.prog 32 #[.int .u32 a, .int .u32 b] w fun e w' => e = .returned (.int .u32 (rv 13 a b)) ∧ w = w' := by
  have e : rv 13 a b = b2i (decide (sg a < sg b)) := by show (if sg a < sg b then 1 else 0) = _; simp [b2i]
  rw [e]
  clear e
  go_enter Try.func32, Try.ntmps32
  go_wp2_with fail
  refine (signed_any a b ha hb _).mono ?_
  rintro e w' ⟨rfl, rfl⟩
  go_wp2_with fail
  refine (one_any _ _).mono ?_
  rintro e w' ⟨rfl, rfl⟩
  go_wp2_with fail
  go_ret
  exact ⟨rfl, rfl⟩
theorem less_any (a b : Int) (w : World) : Calls Try.prog 35 #[.int .u32 a, .int .u32 b] w fun e w' => e = .returned (.bool (decide (a < b))) ∧ w = w' := by
  go_enter Try.func35, Try.ntmps35
  go_wp2
  go_ret
  exact ⟨rfl, rfl⟩
theorem op34_any (a b : Int) (w : World) : Calls Try.prog 34 #[.int .u32 a, .int .u32 b] w fun e w' => e = .returned (.int .u32 (rv 14 a b)) ∧ w = w' := by
  have e : rv 14 a b = b2i (decide (a < b)) := by show (if a < b then 1 else 0) = _; simp [b2i]
  rw [e]
  clear e
  go_enter Try.func34, Try.ntmps34
  go_wp2_with fail
  refine (less_any a b _).mono ?_
  rintro e w' ⟨rfl, rfl⟩
  go_wp2_with fail
  refine (one_any _ _).mono ?_
  rintro e w' ⟨rfl, rfl⟩
  go_wp2_with fail
  go_ret
  exact ⟨rfl, rfl⟩
theorem op36_any (a b : Int) (w : World) : Calls Try.prog 36 #[.int .u32 a, .int .u32 b] w fun e w' => e = .returned (.int .u32 (rv 15 a b)) ∧ w = w' := by
  have e : rv 15 a b = b2i (a == b) := by show (if a = b then 1 else 0) = _; simp [b2i]
  rw [e]
  clear e
  go_enter Try.func36, Try.ntmps36
  go_wp2_with fail
  refine (one_any _ _).mono ?_
  rintro e w' ⟨rfl, rfl⟩
  go_wp2_with fail
  go_ret
  exact ⟨rfl, rfl⟩

theorem reckon_any (c a b : Int) (ha : Bd a) (hb : Bd b) (w : World) :
    Calls Try.prog 10 #[.int .i64 c, .int .u32 a, .int .u32 b] w fun e w' => e = .returned (.tuple #[.int .u32 (rv c a b), .int .i64 (tr c b), .bool (isOp c)]) ∧ Below w.heap.size w w' := by
  by_cases hc : 3 ≤ c ∧ c ≤ 15
  · have hd : ∀ x : Int, (rv c a b = rv c a b) → True := fun _ _ => trivial
    clear hd
    obtain ⟨k, rfl⟩ : ∃ k : Nat, c = (k : Int) := ⟨c.toNat, by omega⟩
    have hk : 3 ≤ k ∧ k ≤ 15 := by omega
    clear hc
    have t0 : ∀ x : Int, b ≠ 0 → tr x b = 0 := fun x h => by unfold tr; rw [if_neg (fun g => h g.2)]
    match k, hk with
    | 3, _ => exact reckon_3 a b _ w (op22_any a b)
    | 4, _ => exact reckon_4 a b _ w (op23_any a b)
    | 5, _ => exact reckon_5 a b _ w (op24_any a b)
    | 6, _ =>
      by_cases hz : b = 0
      · subst hz; exact reckon_panic_6 a 0 10 _ w (op25_zero a)
      · rw [t0 _ hz]; exact reckon_6 a b _ w (op25_any a b ha hb hz)
    | 7, _ =>
      by_cases hz : b = 0
      · subst hz; exact reckon_panic_7 a 0 10 _ w (op26_zero a)
      · rw [t0 _ hz]; exact reckon_7 a b _ w (op26_any a b ha hb hz)
    | 8, _ => exact reckon_8 a b _ w (op27_any a b ha hb)
    | 9, _ => exact reckon_9 a b _ w (op28_any a b ha hb)
    | 10, _ => exact reckon_10 a b _ w (op29_any a b ha hb)
    | 11, _ => exact reckon_11 a b _ w (op30_any a b ha hb)
    | 12, _ => exact reckon_12 a b _ w (op31_any a b ha hb)
    | 13, _ => exact reckon_13 a b _ w (op32_any a b ha hb)
    | 14, _ => exact reckon_14 a b _ w (op34_any a b)
    | 15, _ => exact reckon_15 a b _ w (op36_any a b)
  · have e1 : rv c a b = 0 := by
      unfold rv
      rw [if_neg (by omega), if_neg (by omega), if_neg (by omega), if_neg (by omega), if_neg (by omega), if_neg (by omega), if_neg (by omega), if_neg (by omega), if_neg (by omega), if_neg (by omega), if_neg (by omega), if_neg (by omega), if_neg (by omega)]
    have e2 : tr c b = 0 := by unfold tr; rw [if_neg (by omega)]
    have e3 : isOp c = false := decide_eq_false hc
    rw [e1, e2, e3]
    exact reckon_none c a b w (by omega)

theorem reckon_in (w0 : World) (c a b : Int) (ha : Bd a) (hb : Bd b) (w : World) (h : Below w0.heap.size w0 w) :
    Calls Try.prog 10 #[.int .i64 c, .int .u32 a, .int .u32 b] w fun e w' => e = .returned (.tuple #[.int .u32 (rv c a b), .int .i64 (tr c b), .bool (isOp c)]) ∧ Below w0.heap.size w0 w' :=
  (reckon_any c a b ha hb w).mono fun _ _ ⟨he, hw⟩ => ⟨he, h.trans (hw.mono h.size)⟩

theorem of_in (w0 : World) (c a b : Int) (ha : Bd a) (hb : Bd b) (w : World) (h : Below w0.heap.size w0 w) :
    Calls Try.prog 13 #[.int .i64 c, .int .u32 a, .int .u32 b] w fun e w' => e = .returned (.int .u32 (rv c a b)) ∧ Below w0.heap.size w0 w' := by
  by_cases h1 : isOp c = false
  · have e1 : rv c a b = 0 := by
      have hc : ¬ (3 ≤ c ∧ c ≤ 15) := of_decide_eq_false h1
      unfold rv
      rw [if_neg (by omega), if_neg (by omega), if_neg (by omega), if_neg (by omega), if_neg (by omega), if_neg (by omega), if_neg (by omega), if_neg (by omega), if_neg (by omega), if_neg (by omega), if_neg (by omega), if_neg (by omega), if_neg (by omega)]
    have E1 := Lib.hid e1
    clear e1
    go_enter Try.func13, Try.ntmps13
    go_wp2_with (go_at_call 10; refine (reckon_in w0 c a b ha hb _ h).mono ?_; rintro e w1 ⟨rfl, hb1⟩)
    go_ret
    exact ⟨ret_u32 E1.out.symm, by assumption⟩
  · have h1' : isOp c = true := by simpa using h1
    clear h1
    by_cases h2 : tr c b = 0
    · have e2 : (tr c b != 0) = false := by simp [h2]
      clear h2
      go_enter Try.func13, Try.ntmps13
      go_wp2_with (go_at_call 10; refine (reckon_in w0 c a b ha hb _ h).mono ?_; rintro e w1 ⟨rfl, hb1⟩)
      go_ret
      exact ⟨rfl, by assumption⟩
    · have e2 : (tr c b != 0) = true := by simp [h2]
      have e1 : rv c a b = 0 := by
        unfold tr at h2
        have h3 : (c = 6 ∨ c = 7) ∧ b = 0 := by
          by_cases g : (c = 6 ∨ c = 7) ∧ b = 0
          · exact g
          · rw [if_neg g] at h2; exact absurd rfl h2
        obtain ⟨rfl | rfl, rfl⟩ := h3 <;> rfl
      have E1 := Lib.hid e1
      clear h2 e1
      go_enter Try.func13, Try.ntmps13
      go_wp2_with (go_at_call 10; refine (reckon_in w0 c a b ha hb _ h).mono ?_; rintro e w1 ⟨rfl, hb1⟩)
      go_ret
      exact ⟨ret_u32 E1.out.symm, by assumption⟩

theorem works_in (w0 w : World) (h : Below w0.heap.size w0 w) :
    Calls Try.prog 12 #[] w fun e w' => e = .returned (.bool true) ∧ Below w0.heap.size w0 w' := by
  have b0 : Bd 0 := by unfold Bd; omega
  have b1 : Bd 1 := by unfold Bd; omega
  have b2 : Bd 2 := by unfold Bd; omega
  have b3 : Bd 3 := by unfold Bd; omega
  have b7 : Bd 7 := by unfold Bd; omega
  have r1 : (rv 3 2 3 == 5) = true := by decide
  have r2 : (rv 6 7 2 == 3) = true := by decide
  have r3 : (tr 6 0 == 7) = true := by decide
  have r4 : isOp 6 = true := by decide
  go_enter Try.func12, Try.ntmps12
  go_wp2_with (first | (go_at_call 10; refine (reckon_in w0 _ _ _ b1 b0 _ h).mono ?_; rintro e w1 ⟨rfl, hb1⟩) | (go_at_call 13; refine (of_in w0 _ _ _ (by assumption) (by assumption) _ (by assumption)).mono ?_; rintro e w1 ⟨rfl, hb1⟩))
  go_ret
  exact ⟨rfl, by assumption⟩
end Go.Proofs.Ythaihlhikjidhaa
