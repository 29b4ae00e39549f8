/- A slice of integers that came in, as a list; what the document's Pick answers; the walk of SchedPicks: for any list and any choice. -/
import Derived.Test.YtcgjijcjgchhiaaWorks
import Derived.OpenShut
namespace Go.Proofs.Ytcgjijcjgchhiaa
open Go.RowKit Go.Shelf Go.Maps Go.ChangeShapes

/-- what is known of a slice of integers that came in -/
def IsRow (k : IntKind) (w : World) (a : Option Addr) (len cap : Nat) (zs : List Int) : Prop :=
  (a = none ∧ len = 0 ∧ cap = 0 ∧ zs = []) ∨
  ∃ x, a = some x ∧ len ≤ cap ∧ cap ≤ maxLen ∧ zs.length = cap ∧ (∀ i, i < zs.length → w.cell? (x.add i) = some (.int k (zs.getD i 0))) ∧ ∀ n ∈ zs, (Lit.int k n).wf = true

theorem getD_take (zs : List Int) (n i : Nat) (h : i < n) : (zs.take n).getD i 0 = zs.getD i 0 := by
  rw [List.getD_eq_getElem?_getD, List.getD_eq_getElem?_getD, List.getElem?_take, if_pos h]

theorem row_reads {w : World} {a : Option Addr} {len cap : Nat} {zs : List Int} (h : IsRow .i64 w a len cap zs) (n : Nat) (hn : n ≤ len) :
    (zs.take n).length = n ∧ Reads w.heap.size w a (zs.take n) ∧ len ≤ maxLen ∧ len ≤ cap := by
  rcases h with ⟨rfl, rfl, rfl, rfl⟩ | ⟨x, rfl, hl, hm, hz, hc, _⟩
  · obtain rfl : n = 0 := by omega
    exact ⟨rfl, .inl rfl, by unfold maxLen; omega, by omega⟩
  · have hlen : (zs.take n).length = n := by rw [List.length_take]; omega
    refine ⟨hlen, ?_, by omega, hl⟩
    by_cases h0 : n = 0
    · subst h0; exact .inl rfl
    · obtain ⟨b, off, rfl, hcell⟩ := ints_at hc (by omega)
      refine .inr ⟨b, off, rfl, World.block_lt_of_cell? _ _ (hcell 0 (by omega)), fun i hi => ?_⟩
      rw [hlen] at hi
      rw [getD_take _ _ _ hi]
      exact hcell i (by omega)

set_option maxHeartbeats 1000000 in
theorem rpick_any (a : Option Addr) (cap : Nat) (zs : List Int) (c : Nat) (hc : c < 256) (n : Nat) (w : World) (hm : zs.length ≤ maxLen) (hL : Reads n w a zs) :
    Calls Try.prog 13 #[.slice a zs.length cap, .int .u8 c] w fun e w' => e = .returned (.tuple #[.int .i64 (pkV zs c), .int .i64 (pkE zs)]) ∧ w = w' := by
  unfold maxLen at hm
  by_cases h0 : zs.length = 0
  · obtain rfl : zs = [] := List.length_eq_zero_iff.1 h0
    clear h0 hL hm
    have e1 : pkV [] c = 0 := rfl
    have e2 : pkE [] = 14 := rfl
    rw [e1, e2]
    clear e1 e2
    have hz : (((([] : List Int).length : Nat) : Int) == 0) = true := rfl
    go_enter Try.func13, Try.ntmps13
    go_wp2
    go_ret2
    exact ⟨rfl, rfl⟩
  · rcases hL with rfl | ⟨b, o, rfl, hb, hcell⟩
    · exact absurd rfl h0
    have e2 : pkE zs = 0 := by unfold pkE; rw [if_neg h0]
    have hz : ((zs.length : Int) == 0) = false := by simp; intro h; exact h0 (by simp [h])
    have hpos : 1 ≤ zs.length := by omega
    have hlt : c % zs.length < zs.length := Nat.mod_lt _ (by omega)
    have hcl := hcell _ hlt
    rw [e2]
    have HV := Lib.hid (show zs.getD (c % zs.length) 0 = pkV zs c from rfl)
    rw [HV.out] at hcl
    clear e2 hcell h0
    go_enter Try.func13, Try.ntmps13
    go_wp2
    go_ret2
    exact ⟨rfl, rfl⟩

set_option maxHeartbeats 1000000 in
theorem picks_walk (a : Option Addr) (len cap : Nat) (zs : List Int) (c : Int) (w : World) (h : IsRow .i64 w a len cap zs) (wc : (Lit.int .u8 c).wf = true) :
    Calls Try.prog 4 #[.slice a len cap, .int .u8 c] w fun e w' => e = .returned (.bool true) ∧ Below w.heap.size w w' := by
  obtain ⟨hl, hr, hm, _⟩ := row_reads h len (Nat.le_refl _)
  have hmin : IntKind.u8.min = 0 := rfl
  have hmax : IntKind.u8.max = 255 := rfl
  simp only [Lit.wf, Bool.and_eq_true, decide_eq_true_eq] at wc
  obtain ⟨n, rfl⟩ : ∃ n : Nat, c = (n : Int) := ⟨c.toNat, by omega⟩
  have hn : n < 256 := by omega
  generalize zs.take len = xs at hl hr
  have H1 := Lib.hid (pick_any a cap xs n hn _ w (by omega) hr)
  have H2 := Lib.hid (rpick_any a cap xs n hn _ w (by omega) hr)
  rw [hl] at H1 H2
  clear h hl hr hm hmin hmax wc
  have r1 : (pkV xs n == pkV xs n) = true := by simp
  have r2 : (pkE xs == pkE xs) = true := by simp
  go_enter Try.func4, Try.ntmps4
  go_wp2_with (first | (go_at_call 12; refine H1.out.mono ?_; rintro e w1 ⟨rfl, rfl⟩) | (go_at_call 13; refine H2.out.mono ?_; rintro e w1 ⟨rfl, rfl⟩) | (go_at_call 11; refine (works_in w _ (Below.refl _ _)).mono ?_; rintro e w1 ⟨rfl, hb1⟩))
  go_ret
  exact ⟨rfl, by assumption⟩
end Go.Proofs.Ytcgjijcjgchhiaa
