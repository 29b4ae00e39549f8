/- The walk of AluKnown: the chapter's examples, and what is no such operation (a closed statement). -/
import Derived.Test.YthaihlhikjidhaaTk
namespace Go.Proofs.Ythaihlhikjidhaa
open Go.RowKit

set_option maxRecDepth 100000 in
set_option maxHeartbeats 4000000 in
theorem known_walk (w : World) : Calls Try.prog 9 #[] w fun e w' => e = .returned (.bool true) ∧ Below w.heap.size w w' := by
  have d0 : Bd 0 := by unfold Bd; omega
  have d1 : Bd 1 := by unfold Bd; omega
  have d2 : Bd 2 := by unfold Bd; omega
  have d5 : Bd 5 := by unfold Bd; omega
  have d7 : Bd 7 := by unfold Bd; omega
  have d10 : Bd 10 := by unfold Bd; omega
  have d12 : Bd 12 := by unfold Bd; omega
  have d31 : Bd 31 := by unfold Bd; omega
  have d33 : Bd 33 := by unfold Bd; omega
  have d6 : Bd 65536 := by unfold Bd; omega
  have dh : Bd 2147483648 := by unfold Bd; omega
  have dm : Bd 4294967295 := by unfold Bd; omega
  have r1 : (rv 4 1 2 != 4294967295) = false := by decide
  have r2 : (rv 5 65536 65536 != 0) = false := by decide
  have r3 : (rv 7 7 2 != 1) = false := by decide
  have r4 : (rv 11 1 33 != 2) = false := by decide
  have r5 : (rv 12 2147483648 31 != 1) = false := by decide
  have r6 : (rv 13 4294967295 0 != 1) = false := by decide
  have r7 : (rv 14 4294967295 0 != 0) = false := by decide
  have r8 : (rv 15 5 5 != 1) = false := by decide
  have r9 : (rv 8 12 10 != 8) = false := by decide
  have r10 : (rv 9 12 10 != 14) = false := by decide
  have r11 : (rv 10 12 10 != 6) = false := by decide
  have r12 : (rv 3 4294967295 2 != 1) = false := by decide
  have q1 : (rv 6 7 0 != 0) = false := by decide
  have q2 : (tr 6 0 != 7) = false := by decide
  have q3 : isOp 6 = true := by decide
  have q4 : (rv 7 0 0 != 0) = false := by decide
  have q5 : (tr 7 0 != 7) = false := by decide
  have q6 : isOp 7 = true := by decide
  have t1 : tk 27 4294967295 0 = true := by decide
  have t2 : tk 28 4294967295 0 = false := by decide
  have t3 : tk 26 1 1 = false := by decide
  have hB := Below.refl w.heap.size w
  go_enter Try.func9, Try.ntmps9
  go_wp2_with (first | (go_at_call 13; refine (of_in w _ _ _ (by assumption) (by assumption) _ (by assumption)).mono ?_; rintro e w1 ⟨rfl, hb1⟩) | (go_at_call 10; refine (reckon_in w _ _ _ (by assumption) (by assumption) _ (by assumption)).mono ?_; rintro e w1 ⟨rfl, hb1⟩))
  clear r1 r2 r3 r4 r5 r6 r7 r8 r9 r10 r11 r12 q1 q2 q3 q4 q5 q6
  go_loopw [7] (fun i wr => ∃ k : Int, -3 ≤ k ∧ k ≤ 57 ∧ i = .int .i64 k ∧ Below w.heap.size w wr) (fun i _ => (57 - intOf i).toNat)
  case atStart => exact ⟨-3, by omega, by omega, rfl, by assumption⟩
  case round =>
    obtain ⟨k, hk1, hk2, rfl, hB1⟩ := hrel
    by_cases hk : k = 57
    · subst hk
      go_wp2_with (first | (go_at_call 12; refine (works_in w _ (by assumption)).mono ?_; rintro e w1 ⟨rfl, hb1⟩) | (go_at_call 14; refine (tk_any _ _ _ (by assumption) (by assumption) _).mono ?_; rintro e w1 ⟨rfl, rfl⟩))
      go_ret
      exact ⟨rfl, by assumption⟩
    · have hk3 : k ≤ 56 := by omega
      clear hk2 hk
      by_cases c1 : 3 ≤ k
      · by_cases c2 : k ≤ 15
        · have e1 : isOp k = true := decide_eq_true ⟨c1, c2⟩
          have e2 : isTk k = false := decide_eq_false (by omega)
          go_wp2_with (first | (go_at_call 10; refine (reckon_in w _ _ _ (by assumption) (by assumption) _ (by assumption)).mono ?_; rintro e w1 ⟨rfl, hb1⟩) | (go_at_call 14; refine (tk_any _ _ _ (by assumption) (by assumption) _).mono ?_; rintro e w1 ⟨rfl, rfl⟩))
          go_roundw
          case rel => exact ⟨k + 1, by omega, by omega, by go_num, by assumption⟩
          case measure => simp [intOf]; omega
        · have e1 : isOp k = false := decide_eq_false (by omega)
          by_cases c3 : 25 ≤ k
          · by_cases c4 : k ≤ 28
            · have e2 : isTk k = true := decide_eq_true ⟨c3, c4⟩
              go_wp2_with (first | (go_at_call 10; refine (reckon_in w _ _ _ (by assumption) (by assumption) _ (by assumption)).mono ?_; rintro e w1 ⟨rfl, hb1⟩) | (go_at_call 14; refine (tk_any _ _ _ (by assumption) (by assumption) _).mono ?_; rintro e w1 ⟨rfl, rfl⟩))
              go_roundw
              case rel => exact ⟨k + 1, by omega, by omega, by go_num, by assumption⟩
              case measure => simp [intOf]; omega
            · have e2 : isTk k = false := decide_eq_false (by omega)
              go_wp2_with (first | (go_at_call 10; refine (reckon_in w _ _ _ (by assumption) (by assumption) _ (by assumption)).mono ?_; rintro e w1 ⟨rfl, hb1⟩) | (go_at_call 14; refine (tk_any _ _ _ (by assumption) (by assumption) _).mono ?_; rintro e w1 ⟨rfl, rfl⟩))
              go_roundw
              case rel => exact ⟨k + 1, by omega, by omega, by go_num, by assumption⟩
              case measure => simp [intOf]; omega
          · have e2 : isTk k = false := decide_eq_false (by omega)
            go_wp2_with (first | (go_at_call 10; refine (reckon_in w _ _ _ (by assumption) (by assumption) _ (by assumption)).mono ?_; rintro e w1 ⟨rfl, hb1⟩) | (go_at_call 14; refine (tk_any _ _ _ (by assumption) (by assumption) _).mono ?_; rintro e w1 ⟨rfl, rfl⟩))
            go_roundw
            case rel => exact ⟨k + 1, by omega, by omega, by go_num, by assumption⟩
            case measure => simp [intOf]; omega
      · have e1 : isOp k = false := decide_eq_false (by omega)
        have e2 : isTk k = false := decide_eq_false (by omega)
        go_wp2_with (first | (go_at_call 10; refine (reckon_in w _ _ _ (by assumption) (by assumption) _ (by assumption)).mono ?_; rintro e w1 ⟨rfl, hb1⟩) | (go_at_call 14; refine (tk_any _ _ _ (by assumption) (by assumption) _).mono ?_; rintro e w1 ⟨rfl, rfl⟩))
        go_roundw
        case rel => exact ⟨k + 1, by omega, by omega, by go_num, by assumption⟩
        case measure => simp [intOf]; omega
end Go.Proofs.Ythaihlhikjidhaa
