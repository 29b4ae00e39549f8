/- What isa.Op and the document's Op answer for any name. -/
import Derived.Test.YtoaneiidomdljaaDoorTab
namespace Go.Proofs.YtoaneiidomdljaaDoor
open Go.RowKit Go.Shelf

/-- the first number from k on that bears the name -/
def opFrom (x : ByteArray) : Nat → Nat → Int
  | 0, _ => 0
  | f + 1, k => if ((nmN k).toList == x.toList) = true then k else opFrom x f (k + 1)
def opOf (x : ByteArray) : Int := opFrom x 53 1

set_option maxHeartbeats 1000000 in
theorem rop_any (x : ByteArray) (w : World) :
    Calls Tryd.prog 20 #[.string x] w fun e w' => e = .returned (.int .i64 (opOf x)) ∧ w = w' := by
  go_enter Tryd.func20, Tryd.ntmps20
  go_wp2
  go_loopw [3] (fun i wr => ∃ k : Nat, 1 ≤ k ∧ k ≤ 54 ∧ i = .int .i64 k ∧ opOf x = opFrom x (54 - k) k ∧ w = wr) (fun i _ => 54 - (intOf i).toNat)
  case atStart => exact ⟨1, by omega, by omega, rfl, rfl, rfl⟩
  case round =>
    obtain ⟨k, hk1, hk2, rfl, he, rfl⟩ := hrel
    by_cases hk : k = 54
    · subst hk
      have HE := Lib.hid he
      clear he
      go_wp2
      go_ret
      exact ⟨by rw [HE.out]; rfl, rfl⟩
    · obtain ⟨f, hf⟩ : ∃ f, 54 - k = f + 1 := ⟨53 - k, by omega⟩
      rw [hf, opFrom] at he
      have hn := nm_nat (show k < 54 by omega)
      by_cases hc : ((nmN k).toList == x.toList) = true
      · rw [if_pos hc] at he
        have HE := Lib.hid he
        clear he
        go_wp2_with (go_at_call 17; refine (rname_any _ _).mono ?_; rintro e w1 ⟨rfl, rfl⟩)
        go_ret
        exact ⟨by rw [HE.out]; rfl, rfl⟩
      · rw [if_neg hc] at he
        have HE := Lib.hid he
        have hc' : ((nmN k).toList == x.toList) = false := by simpa using hc
        clear he hc
        go_wp2_with (go_at_call 17; refine (rname_any _ _).mono ?_; rintro e w1 ⟨rfl, rfl⟩)
        go_roundw
        case rel => exact ⟨k + 1, by omega, by omega, by go_num, by rw [HE.out]; congr 1; omega, trivial⟩
        case measure => simp [intOf]; omega

theorem none_at : ∀ (x : ByteArray) (f k : Nat), (∀ j, k ≤ j → j < k + f → ((nmN j).toList == x.toList) = false) → opFrom x f k = 0
  | _, 0, _, _ => rfl
  | x, f + 1, k, h => by
    rw [opFrom, if_neg (by rw [h k (Nat.le_refl _) (by omega)]; simp)]
    exact none_at x f (k + 1) fun j h1 h2 => h j (by omega) (by omega)

theorem nm_some : ∀ j : Nat, 1 ≤ j → j < 54 → (nmN j).toList.isEmpty = false := by
  intro j h1 h2
  rw [ByteArray.toList_eq]
  have : ∀ j : Fin 54, 1 ≤ j.val → (nmN j.val).data.toList.isEmpty = false := by decide
  exact this ⟨j, h2⟩ h1

theorem nm_0 : (nmN 0).toList = [] := by rw [ByteArray.toList_eq]; rfl

theorem opOf_empty {x : ByteArray} (h : x.toList.isEmpty = true) : opOf x = 0 := by
  refine none_at x 53 1 fun j h1 h2 => ?_
  have hx : x.toList = [] := by simpa using h
  have := nm_some j h1 (by omega)
  rw [hx]
  cases hq : (nmN j).toList with
  | nil => rw [hq] at this; simp at this
  | cons a l => rfl

theorem opOf_some {x : ByteArray} (h : x.toList.isEmpty = false) : opOf x = opFrom x 54 0 := by
  rw [opFrom, if_neg]
  · rfl
  · rw [nm_0]
    cases hq : x.toList with
    | nil => rw [hq] at h; simp at h
    | cons a l => simp

set_option maxHeartbeats 1000000 in
theorem op_in (w0 w : World) (h : Below w0.heap.size w0 w) (ht : Tab w0) (x : ByteArray) :
    Calls Tryd.prog 19 #[.string x] w fun e w' => e = .returned (.int .i64 (opOf x)) ∧ Below w0.heap.size w0 w' := by
  have hw := ht.below h
  obtain ⟨h0, t, fr, hg⟩ := hw
  by_cases hx : x.toList.isEmpty = true
  · have he := Lib.hid (opOf_empty hx)
    have hx' : (!x.toList.isEmpty) = false := by rw [hx]; rfl
    go_enter Tryd.func19, Tryd.ntmps19
    go_wp2_with (refine wpList_load_row rfl 48 _ rfl 0 rfl t _ fr _ hg Tryd.underlying48 rfl (by kernel_rfl) ?_)
    go_loopw [6] (fun i wr => ∃ k : Nat, k ≤ 54 ∧ i = .int .i64 k ∧ Below w0.heap.size w0 wr) (fun i _ => 54 - (intOf i).toNat)
    case atStart => exact ⟨0, by omega, rfl, h⟩
    case round =>
      obtain ⟨k, hk2, rfl, hb⟩ := hrel
      by_cases hk : k = 54
      · subst hk
        go_wp2
        go_ret
        exact ⟨by rw [he.out]; rfl, hb⟩
      · have ix := ix_at k (by omega)
        generalize nmN k = y at ix
        generalize fmN k = z at ix
        generalize tabCs = cs at ix
        go_wp2
        all_goals
          go_roundw
          case rel => exact ⟨k + 1, by omega, by go_num, hb.alloc hb.size _⟩
          case measure => simp [intOf]; omega
  have hx' : x.toList.isEmpty = false := by simpa using hx
  have he := opOf_some hx'
  have hx2 : (!x.toList.isEmpty) = true := by rw [hx']; rfl
  clear hx hx'
  go_enter Tryd.func19, Tryd.ntmps19
  go_wp2_with (refine wpList_load_row rfl 48 _ rfl 0 rfl t _ fr _ hg Tryd.underlying48 rfl (by kernel_rfl) ?_)
  go_loopw [6] (fun i wr => ∃ k : Nat, k ≤ 54 ∧ i = .int .i64 k ∧ opOf x = opFrom x (54 - k) k ∧ Below w0.heap.size w0 wr) (fun i _ => 54 - (intOf i).toNat)
  case atStart => exact ⟨0, by omega, rfl, he, h⟩
  case round =>
    obtain ⟨k, hk2, rfl, he, hb⟩ := hrel
    by_cases hk : k = 54
    · subst hk
      have HE := Lib.hid he
      clear he
      go_wp2
      go_ret
      exact ⟨by rw [HE.out]; rfl, hb⟩
    · obtain ⟨f, hf⟩ : ∃ f, 54 - k = f + 1 := ⟨53 - k, by omega⟩
      rw [hf, opFrom] at he
      have ix := ix_at k (by omega)
      generalize nmN k = y at he ix
      generalize fmN k = z at ix
      generalize tabCs = cs at ix
      by_cases hc : (y.toList == x.toList) = true
      · rw [if_pos hc] at he
        have HE := Lib.hid he
        clear he
        go_wp2
        go_ret
        exact ⟨by rw [HE.out]; rfl, hb.alloc hb.size _⟩
      · rw [if_neg hc] at he
        have HE := Lib.hid he
        have hc' : (y.toList == x.toList) = false := by simpa using hc
        clear he hc
        go_wp2
        go_roundw
        case rel => exact ⟨k + 1, by omega, by go_num, by rw [HE.out]; congr 1; omega, hb.alloc hb.size _⟩
        case measure => simp [intOf]; omega
end Go.Proofs.YtoaneiidomdljaaDoor
