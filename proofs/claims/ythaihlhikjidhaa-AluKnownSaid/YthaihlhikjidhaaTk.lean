/- What alu.Takes and the document's Takes answer, and the walk of AluTakes: for any operation and any two numbers of 32 bits. -/
import Derived.Test.YthaihlhikjidhaaDiv
namespace Go.Proofs.Ythaihlhikjidhaa
open Go.RowKit

/-- is a branch taken -/
def tk (c a b : Int) : Bool := if c = 25 then a == b else if c = 26 then a != b else if c = 27 then decide (sg a < sg b) else if c = 28 then !decide (sg a < sg b) else false
def isTk (c : Int) : Bool := decide (25 ≤ c ∧ c ≤ 28)

theorem tk_any (c a b : Int) (ha : Bd a) (hb : Bd b) (w : World) :
    Calls Try.prog 14 #[.int .i64 c, .int .u32 a, .int .u32 b] w fun e w' => e = .returned (.tuple #[.bool (tk c a b), .bool (isTk c)]) ∧ w = w' := by
  by_cases h1 : c = 25
  · subst h1
    go_enter Try.func14, Try.ntmps14
    go_wp2_with (go_at_call 21; refine (signed_any a b ha hb _).mono ?_; rintro e w' ⟨rfl, rfl⟩)
    go_ret2
    exact ⟨rfl, rfl⟩
  by_cases h2 : c = 26
  · subst h2
    go_enter Try.func14, Try.ntmps14
    go_wp2_with (go_at_call 21; refine (signed_any a b ha hb _).mono ?_; rintro e w' ⟨rfl, rfl⟩)
    go_ret2
    exact ⟨rfl, rfl⟩
  by_cases h3 : c = 27
  · subst h3
    go_enter Try.func14, Try.ntmps14
    go_wp2_with (go_at_call 21; refine (signed_any a b ha hb _).mono ?_; rintro e w' ⟨rfl, rfl⟩)
    go_ret2
    exact ⟨rfl, rfl⟩
  by_cases h4 : c = 28
  · subst h4
    go_enter Try.func14, Try.ntmps14
    go_wp2_with (go_at_call 21; refine (signed_any a b ha hb _).mono ?_; rintro e w' ⟨rfl, rfl⟩)
    go_ret2
    exact ⟨rfl, rfl⟩
  have e1 : tk c a b = false := by unfold tk; rw [if_neg h1, if_neg h2, if_neg h3, if_neg h4]
  have e2 : isTk c = false := decide_eq_false (by omega)
  rw [e1, e2]
  have g1 : (c == 25) = false := by simpa using h1
  have g2 : (c == 26) = false := by simpa using h2
  have g3 : (c == 27) = false := by simpa using h3
  have g4 : (c == 28) = false := by simpa using h4
  clear h1 h2 h3 h4 e1 e2
  go_enter Try.func14, Try.ntmps14
  go_wp2
  go_ret2
  exact ⟨rfl, rfl⟩

theorem rsigned_any (v : Int) (h : Bd v) (w : World) :
    Calls Try.prog 20 #[.int .u32 v] w fun e w' => e = .returned (.int .i64 (sg v)) ∧ w = w' := by
  have h1 := h.1
  have h2 := h.2
  clear h
  by_cases hs : v < 2147483648
  · have e : sg v = v := by unfold sg; rw [if_pos hs]
    rw [e]
    clear e
    go_enter Try.func20, Try.ntmps20
    go_wp2
    go_ret
    exact ⟨rfl, rfl⟩
  · have e : sg v = v - 4294967296 := by unfold sg; rw [if_neg hs]
    rw [e]
    clear e
    go_enter Try.func20, Try.ntmps20
    go_wp2
    go_ret
    exact ⟨rfl, rfl⟩

theorem rtk_any (c a b : Int) (ha : Bd a) (hb : Bd b) (w : World) :
    Calls Try.prog 15 #[.int .i64 c, .int .u32 a, .int .u32 b] w fun e w' => e = .returned (.tuple #[.bool (tk c a b), .bool (isTk c)]) ∧ w = w' := by
  by_cases h1 : c = 25
  · subst h1
    go_enter Try.func15, Try.ntmps15
    go_wp2
    go_ret2
    exact ⟨rfl, rfl⟩
  by_cases h2 : c = 26
  · subst h2
    go_enter Try.func15, Try.ntmps15
    go_wp2
    go_ret2
    exact ⟨rfl, rfl⟩
  by_cases h3 : c = 27
  · subst h3
    go_enter Try.func15, Try.ntmps15
    go_wp2_with (go_at_call 20; refine (rsigned_any _ (by assumption) _).mono ?_; rintro e w' ⟨rfl, rfl⟩)
    go_ret2
    exact ⟨rfl, rfl⟩
  by_cases h4 : c = 28
  · subst h4
    have e : tk 28 a b = decide (sg b ≤ sg a) := by
      show (!decide (sg a < sg b)) = _
      by_cases g : sg a < sg b
      · rw [decide_eq_true g, decide_eq_false (by omega)]; rfl
      · rw [decide_eq_false g, decide_eq_true (by omega)]; rfl
    rw [e]
    clear e
    go_enter Try.func15, Try.ntmps15
    go_wp2_with (go_at_call 20; refine (rsigned_any _ (by assumption) _).mono ?_; rintro e w' ⟨rfl, rfl⟩)
    go_ret2
    exact ⟨rfl, rfl⟩
  have e1 : tk c a b = false := by unfold tk; rw [if_neg h1, if_neg h2, if_neg h3, if_neg h4]
  have e2 : isTk c = false := decide_eq_false (by omega)
  rw [e1, e2]
  have g1 : (c == 25) = false := by simpa using h1
  have g2 : (c == 26) = false := by simpa using h2
  have g3 : (c == 27) = false := by simpa using h3
  have g4 : (c == 28) = false := by simpa using h4
  clear h1 h2 h3 h4 e1 e2
  go_enter Try.func15, Try.ntmps15
  go_wp2
  go_ret2
  exact ⟨rfl, rfl⟩

theorem takes_walk (c a b : Int) (w : World) (_wc : (Lit.int .i64 c).wf = true) (wa : (Lit.int .u32 a).wf = true) (wb : (Lit.int .u32 b).wf = true) :
    Calls Try.prog 7 #[.int .i64 c, .int .u32 a, .int .u32 b] w fun e w' => e = .returned (.bool true) ∧ Below w.heap.size w w' := by
  have ha := bd_wf wa
  have hb := bd_wf wb
  clear wa wb
  have hB := Below.refl w.heap.size w
  have r1 : (tk c a b == tk c a b) = true := by simp
  have r2 : (isTk c == isTk c) = true := by simp
  go_enter Try.func7, Try.ntmps7
  go_wp2_with (first | (go_at_call 12; refine (works_in w _ (by assumption)).mono ?_; rintro e w1 ⟨rfl, hb1⟩) | (go_at_call 14; refine (tk_any _ _ _ ha hb _).mono ?_; rintro e w1 ⟨rfl, rfl⟩) | (go_at_call 15; refine (rtk_any _ _ _ ha hb _).mono ?_; rintro e w1 ⟨rfl, rfl⟩))
  go_ret
  exact ⟨rfl, by assumption⟩
end Go.Proofs.Ythaihlhikjidhaa
