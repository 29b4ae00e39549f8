/- What sched.Pick and the document's Pick answer, for every list and every choice; sched.Ready as a plain contract; the helper works of the sched statements. -/
import Derived.Test.YtcgjijcjgchhiaaReady
namespace Go.Proofs.Ytcgjijcjgchhiaa
open Go.RowKit Go.Shelf

/-- the value v holds the list xs in the world W -/
def Holds (W : World) (v : Value) (xs : List Int) : Prop := ∃ a cap, v = .slice a xs.length cap ∧ Reads W.heap.size W a xs

theorem holds_of_row {W : World} {base : Nat} {v : Value} {xs : List Int} (h : W.ownsRow base 3 1 v xs.length (xs.map (Value.int .i64))) : Holds W v xs := by
  have hc := h.2
  rcases hc with ⟨rfl, h0⟩ | ⟨g, cap, cur, rfl, hb, hh, h1, h2, h3, h4⟩
  · obtain rfl : xs = [] := List.length_eq_zero_iff.1 h0
    exact ⟨none, 0, rfl, .inl rfl⟩
  · refine ⟨some ⟨g, 0, none⟩, cap, rfl, .inr ⟨g, 0, rfl, (Array.getElem?_eq_some_iff.1 hh).1, fun i hi => ?_⟩⟩
    have e1 : cur.toList[i]? = (xs.map (Value.int .i64))[i]? := by
      rw [← h4, List.getElem?_take, if_pos (by omega)]
    have e2 : (xs.map (Value.int .i64))[i]? = some (.int .i64 (xs.getD i 0)) := by
      rw [List.getElem?_map, List.getElem?_eq_getElem hi, List.getD_eq_getElem?_getD, List.getElem?_eq_getElem hi]; rfl
    rw [e2] at e1
    simp [World.cell?, hh]
    rw [← Array.getElem?_toList]; exact e1

theorem ready_any (a : Option Addr) (cap : Nat) (zs : List Int) (sw : Bool) (hlen : zs.length ≤ 1000000) (w : World) (hL : Reads w.heap.size w a zs) :
    Calls Try.prog 9 #[.slice a zs.length cap, .bool sw] w fun e W' => ∃ v, e = .returned v ∧ Holds W' v (rd zs sw) ∧ Below w.heap.size w W' :=
  (callsIn_wide.1 (ready_in Fence.wide 3 trivial trivial trivial rfl (Nat.le_refl _) a cap zs sw hlen w hL)).mono fun _ _ ⟨v, he, hr, _, hb⟩ => ⟨v, he, holds_of_row hr, hb⟩

/-- who is picked of a list, and with which error -/
def pkV (zs : List Int) (c : Nat) : Int := zs.getD (c % zs.length) 0
def pkE (zs : List Int) : Int := if zs.length = 0 then 14 else 0

set_option maxHeartbeats 1000000 in
theorem pick_any (a : Option Addr) (cap : Nat) (zs : List Int) (c : Nat) (hc : c < 256) (n : Nat) (w : World) (hm : zs.length ≤ maxLen) (hL : Reads n w a zs) :
    Calls Try.prog 12 #[.slice a zs.length cap, .int .u8 c] w fun e w' => e = .returned (.tuple #[.int .i64 (pkV zs c), .int .i64 (pkE zs)]) ∧ w = w' := by
  unfold maxLen at hm
  by_cases h0 : zs.length = 0
  · obtain rfl : zs = [] := List.length_eq_zero_iff.1 h0
    clear h0 hL hm
    have e1 : pkV [] c = 0 := rfl
    have e2 : pkE [] = 14 := rfl
    rw [e1, e2]
    clear e1 e2
    have hz : (((([] : List Int).length : Nat) : Int) == 0) = true := rfl
    go_enter Try.func12, Try.ntmps12
    go_wp2
    go_ret2
    exact ⟨rfl, rfl⟩
  · rcases hL with rfl | ⟨b, o, rfl, hb, hcell⟩
    · exact absurd rfl h0
    have e2 : pkE zs = 0 := by unfold pkE; rw [if_neg h0]
    have hz : ((zs.length : Int) == 0) = false := by simp; intro h; exact h0 (by simp [h])
    have hpos : 1 ≤ zs.length := by omega
    have hlt : c % zs.length < zs.length := Nat.mod_lt _ (by omega)
    have hcl := hcell _ hlt
    rw [e2]
    have HV := Lib.hid (show zs.getD (c % zs.length) 0 = pkV zs c from rfl)
    rw [HV.out] at hcl
    clear e2 hcell h0
    go_enter Try.func12, Try.ntmps12
    go_wp2
    go_ret2
    exact ⟨rfl, rfl⟩
end Go.Proofs.Ytcgjijcjgchhiaa
