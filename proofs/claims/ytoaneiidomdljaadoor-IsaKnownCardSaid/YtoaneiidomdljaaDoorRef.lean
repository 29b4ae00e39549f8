/- What the document's has, field, May and Encode answer. -/
import Derived.Test.YtoaneiidomdljaaDoorPut
namespace Go.Proofs.YtoaneiidomdljaaDoor
open Go.RowKit Go.Shelf

/-- is a letter in a form -/
def hasF (S : ByteArray) (L : Int) : Bool := S.data.toList.any fun u => (u.toNat : Int) == L

theorem has_hit {S : ByteArray} {k : Nat} {L : Int} (h : k < S.size) (e : (((S[k]'h).toNat : Int) == L) = true) : hasF S L = true := by
  refine List.any_eq_true.2 ⟨S[k]'h, ?_, e⟩
  have : S[k]'h = S.data.toList[k]'(by simpa using h) := rfl
  rw [this]
  exact List.getElem_mem _
theorem has_step {S : ByteArray} {k : Nat} {L : Int} (h : k < S.size) (e : (((S[k]'h).toNat : Int) == L) = false) (he : (S.data.toList.take k).any (fun u => (u.toNat : Int) == L) = false) :
    (S.data.toList.take (k + 1)).any (fun u => (u.toNat : Int) == L) = false := by
  have hk : k < S.data.toList.length := by simpa using h
  have : S[k]'h = S.data.toList[k]'hk := rfl
  rw [this] at e
  rw [List.take_succ_eq_append_getElem hk, List.any_append, he, List.any_cons, e]
  rfl
theorem has_end {S : ByteArray} {k : Nat} {L : Int} (h : ¬ k < S.size) (he : (S.data.toList.take k).any (fun u => (u.toNat : Int) == L) = false) : hasF S L = false := by
  rw [List.take_of_length_le (by have : S.data.toList.length = S.size := by simp
                                 omega)] at he
  exact he

theorem has_any (S : ByteArray) (hS : S.size ≤ 1000) (L : Int) (w : World) :
    Calls Tryd.prog 23 #[.string S, .int .u8 L] w fun e w' => e = .returned (.bool (hasF S L)) ∧ w = w' := by
  have h0 : (0 : Int) ≤ S.size := by omega
  go_enter Tryd.func23, Tryd.ntmps23
  go_wp2
  go_loopw [5] (fun i wr => ∃ k : Nat, k ≤ S.size ∧ i = .int .i64 k ∧ (S.data.toList.take k).any (fun u => (u.toNat : Int) == L) = false ∧ w = wr) (fun i _ => S.size - (intOf i).toNat)
  case atStart => exact ⟨0, by omega, rfl, by simp, rfl⟩
  case round =>
    obtain ⟨k, hk, rfl, he, rfl⟩ := hrel
    have HE := Lib.hid he
    clear he
    by_cases hlt : k < S.size
    · by_cases hc : (((S[k]'hlt).toNat : Int) == L) = true
      · have e1 := Lib.hid (has_hit hlt hc)
        go_wp2
        go_ret
        exact ⟨by rw [e1.out]; rfl, rfl⟩
      · have hc' : (((S[k]'hlt).toNat : Int) == L) = false := by simpa using hc
        have e1 := Lib.hid (has_step hlt hc' HE.out)
        clear hc
        go_wp2
        go_roundw
        case rel => exact ⟨k + 1, by omega, by go_num, e1.out, trivial⟩
        case measure => simp [intOf]; omega
    · have e1 := Lib.hid (has_end hlt HE.out)
      go_wp2
      go_ret
      exact ⟨by rw [e1.out]; rfl, rfl⟩

def fldB (S : ByteArray) (L v : Int) : Bool := if hasF S L = true then decide (0 ≤ v ∧ v ≤ 15) else decide (v = 0)

theorem field_any (S : ByteArray) (hS : S.size ≤ 1000) (L v : Int) (w : World) :
    Calls Tryd.prog 27 #[.string S, .int .u8 L, .int .i64 v] w fun e w' => e = .returned (.bool (fldB S L v)) ∧ w = w' := by
  by_cases h : hasF S L = true
  · have e1 : fldB S L v = decide (0 ≤ v ∧ v ≤ 15) := by unfold fldB; rw [if_pos h]
    rw [e1]
    clear e1
    go_enter Tryd.func27, Tryd.ntmps27
    go_wp2_with (go_at_call 23; refine (has_any _ hS _ _).mono ?_; rintro e w' ⟨rfl, rfl⟩)
    all_goals go_ret
    all_goals exact ⟨by first | rfl | (simp [*]; done) | (simp [*]; omega), rfl⟩
  · have h' : hasF S L = false := by simpa using h
    have e1 : fldB S L v = decide (v = 0) := by unfold fldB; rw [if_neg h]
    rw [e1]
    clear e1 h
    go_enter Tryd.func27, Tryd.ntmps27
    go_wp2_with (go_at_call 23; refine (has_any _ hS _ _).mono ?_; rintro e w' ⟨rfl, rfl⟩)
    all_goals go_ret
    all_goals exact ⟨by first | rfl | (simp [*]; done) | (simp [*]; omega), rfl⟩

/-- may an instruction be -/
def mayB (op a b c m : Int) : Bool :=
  decide (1 ≤ op ∧ op ≤ 53) && (fldB (fm op) 97 a && fldB (fm op) 98 b && fldB (fm op) 99 c) &&
    (if hasF (fm op) 106 = true then decide (-524288 ≤ m ∧ m ≤ 524287) else if hasF (fm op) 105 = true then decide (-2048 ≤ m ∧ m ≤ 2047) else decide (m = 0))

theorem ret_bool {a b : Bool} (h : a = b) : Ending.returned (.bool a) = .returned (.bool b) := by rw [h]

set_option maxHeartbeats 1000000 in
theorem may_in (w0 w : World) (h : Below w0.heap.size w0 w) (op a b c m : Int) :
    Calls Tryd.prog 22 #[.agg (insV op a b c m)] w fun e w' => e = .returned (.bool (mayB op a b c m)) ∧ Below w0.heap.size w0 w' := by
  have hb := h.alloc h.size (.cells (insV op a b c m) 23)
  have hS := fm_size op
  go_enter Tryd.func22, Tryd.ntmps22
  go_wp2_with (first | (go_at_call 18; refine (rform_any _ _).mono ?_; rintro e w' ⟨rfl, rfl⟩) | (go_at_call 27; refine (field_any _ hS _ _ _).mono ?_; rintro e w' ⟨rfl, rfl⟩) | (go_at_call 23; refine (has_any _ hS _ _).mono ?_; rintro e w' ⟨rfl, rfl⟩))
  all_goals go_ret
  all_goals (refine ⟨ret_bool ?_, hb⟩)
  all_goals first | (simp [mayB, *]; done) | (simp [mayB, *]; omega) | (simp_all [mayB]; done) | (have hx : fldB (fm op) 99 c = true := (by simpa using ‹(!fldB (fm op) 99 c) = false›); simp [mayB, *]; by_cases hm : m = 0 <;> simp [hm])

theorem fld_bd {S : ByteArray} {L v : Int} (h : fldB S L v = true) : 0 ≤ v ∧ v ≤ 15 := by
  unfold fldB at h
  split at h
  · exact of_decide_eq_true h
  · have := of_decide_eq_true h; omega

theorem may_bd {op a b c m : Int} (h : mayB op a b c m = true) : (1 ≤ op ∧ op ≤ 53) ∧ (0 ≤ a ∧ a ≤ 15) ∧ (0 ≤ b ∧ b ≤ 15) ∧ (0 ≤ c ∧ c ≤ 15) ∧ (-524288 ≤ m ∧ m ≤ 524287) ∧ (hasF (fm op) 106 = false → -2048 ≤ m ∧ m ≤ 2047) := by
  unfold mayB at h
  simp only [Bool.and_eq_true] at h
  obtain ⟨⟨h1, ⟨h2, h3⟩, h4⟩, h5⟩ := h
  refine ⟨of_decide_eq_true h1, fld_bd h2, fld_bd h3, fld_bd h4, ?_, ?_⟩
  · split at h5
    · exact of_decide_eq_true h5
    · split at h5 <;> have := of_decide_eq_true h5 <;> omega
  · intro hj
    rw [hj] at h5
    simp only [Bool.false_eq_true, if_false] at h5
    split at h5 <;> have := of_decide_eq_true h5 <;> omega

def immW (op m : Int) : Int := if m < 0 then (if hasF (fm op) 106 = true then m + 1048576 else m + 4096) else m
def wordOf (op a b c m : Int) : Int := op * 16777216 + a * 1048576 + b * 65536 + c * 4096 + immW op m
def encW (op a b c m : Int) : Int := if mayB op a b c m = true then wordOf op a b c m else 0
def encE (op a b c m : Int) : Int := if mayB op a b c m = true then 0 else 2

theorem ret_enc {a b c d : Int} (h : a = c) (k : b = d) : Ending.returned (.tuple #[.int .u32 a, .int .i64 b]) = .returned (.tuple #[.int .u32 c, .int .i64 d]) := by rw [h, k]

theorem may_st (w0 w : World) (h : Below w0.heap.size w0 w) (op a b c m : Int) (x : Bool) (hx : mayB op a b c m = x) :
    Calls Tryd.prog 22 #[.agg (insV op a b c m)] (w.alloc (.cells (insV op a b c m) 23)) fun e w' => e = .returned (.bool x) ∧
      (w'.cell? ⟨w.heap.size, 0, none⟩ = some (.int .i64 op) ∧ w'.cell? ⟨w.heap.size, 1, none⟩ = some (.int .i64 a) ∧ w'.cell? ⟨w.heap.size, 2, none⟩ = some (.int .i64 b) ∧ w'.cell? ⟨w.heap.size, 3, none⟩ = some (.int .i64 c) ∧ w'.cell? ⟨w.heap.size, 4, none⟩ = some (.int .i64 m) ∧
        Below w0.heap.size w0 w') := by
  subst hx
  have h1 := h.alloc h.size (.cells (insV op a b c m) 23)
  refine (may_in _ _ (Below.refl _ _) op a b c m).mono ?_
  rintro e w' ⟨rfl, hb⟩
  have hs : (w.alloc (.cells (insV op a b c m) 23)).heap.size = w.heap.size + 1 := World.size_alloc _ _
  have hi : w'.heap[w.heap.size]? = some (.cells (insV op a b c m) 23 (0, 0)) := by rw [hb.block _ (by omega)]; exact heap_alloc_new _ _
  exact ⟨rfl, (cell_of_row w' _ 0 _ _ _ hi).trans rfl, (cell_of_row w' _ 1 _ _ _ hi).trans rfl, (cell_of_row w' _ 2 _ _ _ hi).trans rfl, (cell_of_row w' _ 3 _ _ _ hi).trans rfl, (cell_of_row w' _ 4 _ _ _ hi).trans rfl, h1.trans (hb.mono h1.size)⟩

set_option maxHeartbeats 1000000 in
theorem renc_in (w0 w : World) (h : Below w0.heap.size w0 w) (op a b c m : Int) :
    Calls Tryd.prog 11 #[.agg (insV op a b c m)] w fun e w' => e = .returned (.tuple #[.int .u32 (encW op a b c m), .int .i64 (encE op a b c m)]) ∧ Below w0.heap.size w0 w' := by
  have hS := fm_size op
  by_cases hm : mayB op a b c m = true
  · have E1 := Lib.hid (show encW op a b c m = wordOf op a b c m from if_pos hm)
    have E2 := Lib.hid (show encE op a b c m = 0 from if_pos hm)
    obtain ⟨⟨o1, o2⟩, ⟨a1, a2⟩, ⟨b1, b2⟩, ⟨c1, c2⟩, ⟨m1, m2⟩, hm3⟩ := may_bd hm
    have M := Lib.hid hm
    clear hm
    by_cases hj : hasF (fm op) 106 = true
    · clear hm3
      by_cases hn : m < 0
      · have E3 := Lib.hid (show immW op m = m + 1048576 by unfold immW; rw [if_pos hn, if_pos hj])
        go_enter Tryd.func11, Tryd.ntmps11
        go_wp2_with fail
        refine (may_st w0 w h op a b c m _ M.out).mono ?_
        rintro e w1 ⟨rfl, k0, k1, k2, k3, k4, kb⟩
        go_wp2_with (first | (go_at_call 18; refine (rform_any _ _).mono ?_; rintro e w' ⟨rfl, rfl⟩) | (go_at_call 23; refine (has_any _ hS _ _).mono ?_; rintro e w' ⟨rfl, rfl⟩))
        go_ret2
        exact ⟨ret_enc (by rw [E1.out]; unfold wordOf; rw [E3.out]) (by rw [E2.out]), kb⟩
      · have E3 := Lib.hid (show immW op m = m by unfold immW; rw [if_neg hn])
        go_enter Tryd.func11, Tryd.ntmps11
        go_wp2_with fail
        refine (may_st w0 w h op a b c m _ M.out).mono ?_
        rintro e w1 ⟨rfl, k0, k1, k2, k3, k4, kb⟩
        go_wp2_with (first | (go_at_call 18; refine (rform_any _ _).mono ?_; rintro e w' ⟨rfl, rfl⟩) | (go_at_call 23; refine (has_any _ hS _ _).mono ?_; rintro e w' ⟨rfl, rfl⟩))
        go_ret2
        exact ⟨ret_enc (by rw [E1.out]; unfold wordOf; rw [E3.out]) (by rw [E2.out]), kb⟩
    · have hj' : hasF (fm op) 106 = false := by simpa using hj
      obtain ⟨m3, m4⟩ := hm3 hj'
      by_cases hn : m < 0
      · have E3 := Lib.hid (show immW op m = m + 4096 by unfold immW; rw [if_pos hn, if_neg hj])
        clear hm3 hj
        go_enter Tryd.func11, Tryd.ntmps11
        go_wp2_with fail
        refine (may_st w0 w h op a b c m _ M.out).mono ?_
        rintro e w1 ⟨rfl, k0, k1, k2, k3, k4, kb⟩
        go_wp2_with (first | (go_at_call 18; refine (rform_any _ _).mono ?_; rintro e w' ⟨rfl, rfl⟩) | (go_at_call 23; refine (has_any _ hS _ _).mono ?_; rintro e w' ⟨rfl, rfl⟩))
        go_ret2
        exact ⟨ret_enc (by rw [E1.out]; unfold wordOf; rw [E3.out]) (by rw [E2.out]), kb⟩
      · have E3 := Lib.hid (show immW op m = m by unfold immW; rw [if_neg hn])
        clear hm3 hj
        go_enter Tryd.func11, Tryd.ntmps11
        go_wp2_with fail
        refine (may_st w0 w h op a b c m _ M.out).mono ?_
        rintro e w1 ⟨rfl, k0, k1, k2, k3, k4, kb⟩
        go_wp2_with (first | (go_at_call 18; refine (rform_any _ _).mono ?_; rintro e w' ⟨rfl, rfl⟩) | (go_at_call 23; refine (has_any _ hS _ _).mono ?_; rintro e w' ⟨rfl, rfl⟩))
        go_ret2
        exact ⟨ret_enc (by rw [E1.out]; unfold wordOf; rw [E3.out]) (by rw [E2.out]), kb⟩
  · have hm' : mayB op a b c m = false := by simpa using hm
    have E1 := Lib.hid (show encW op a b c m = 0 from if_neg hm)
    have E2 := Lib.hid (show encE op a b c m = 2 from if_neg hm)
    clear hm
    go_enter Tryd.func11, Tryd.ntmps11
    go_wp2_with fail
    refine (may_st w0 w h op a b c m _ hm').mono ?_
    rintro e w1 ⟨rfl, k0, k1, k2, k3, k4, kb⟩
    go_wp2_with fail
    go_ret2
    exact ⟨ret_enc (by rw [E1.out]) (by rw [E2.out]), kb⟩
end Go.Proofs.YtoaneiidomdljaaDoor
