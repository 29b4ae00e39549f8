/- The walk of SchedAll: each one that is ready is picked by some choice, and nobody else by any; for any states, two hundred of them looked at. -/
import Derived.Test.YtcgjijcjgchhiaaRReady
namespace Go.Proofs.Ytcgjijcjgchhiaa
open Go.RowKit Go.Shelf Go.Maps Go.ChangeShapes

/-- is number i picked by one of the first k choices -/
def pickedTo (ys : List Int) : Nat → Nat → Bool
  | 0, _ => false
  | k + 1, i => pickedTo ys k i || (!ys.isEmpty && pkV ys k == (i : Int))

theorem pickedTo_iff (ys : List Int) (i : Nat) : ∀ k, pickedTo ys k i = true ↔ ys ≠ [] ∧ ∃ c, c < k ∧ pkV ys c = (i : Int)
  | 0 => by simp [pickedTo]
  | k + 1 => by
    rw [pickedTo, Bool.or_eq_true, pickedTo_iff ys i k]
    cases ys with
    | nil => simp
    | cons y ys =>
      simp only [List.isEmpty_cons, Bool.not_false, Bool.true_and, beq_iff_eq, ne_eq, reduceCtorEq, not_false_eq_true, true_and]
      constructor
      · rintro (⟨c, h1, h2⟩ | h)
        · exact ⟨c, by omega, h2⟩
        · exact ⟨k, by omega, h⟩
      · rintro ⟨c, h1, h2⟩
        by_cases e : c = k
        · subst e; exact .inr h2
        · exact .inl ⟨c, by omega, h2⟩

theorem pkV_mem (ys : List Int) (c : Nat) (h : ys ≠ []) : pkV ys c ∈ ys := by
  unfold pkV
  have hp : 0 < ys.length := List.length_pos_iff.2 h
  have hlt : c % ys.length < ys.length := Nat.mod_lt _ hp
  rw [List.getD_eq_getElem?_getD, List.getElem?_eq_getElem hlt]
  exact List.getElem_mem hlt

theorem picked_all (ys : List Int) (hl : ys.length ≤ 256) (i : Nat) : pickedTo ys 256 i = decide ((i : Int) ∈ ys) := by
  rw [Bool.eq_iff_iff, pickedTo_iff, decide_eq_true_iff]
  constructor
  · rintro ⟨h, c, _, e⟩
    rw [← e]; exact pkV_mem ys c h
  · intro h
    have hne : ys ≠ [] := by rintro rfl; cases h
    obtain ⟨j, hj, e⟩ := List.getElem_of_mem h
    refine ⟨hne, j, by omega, ?_⟩
    unfold pkV
    rw [Nat.mod_eq_of_lt hj, List.getD_eq_getElem?_getD, List.getElem?_eq_getElem hj]
    exact e

theorem rd_bounds (xs : List Int) (sw : Bool) (v : Int) (h : v ∈ rd xs sw) : 0 ≤ v ∧ v ≤ xs.length := by
  unfold rd rdTo at h
  rcases List.mem_append.1 h with h | h
  · obtain ⟨i, hi, rfl⟩ := List.mem_map.1 h
    have := List.mem_range.1 (List.mem_filter.1 hi).1
    omega
  · cases sw
    · simp at h
    · simp at h; omega
theorem rd_hart (xs : List Int) (sw : Bool) (i : Nat) (h : i < xs.length) : decide ((i : Int) ∈ rd xs sw) = (xs.getD i 0 == 0) := by
  rw [Bool.eq_iff_iff, decide_eq_true_iff]
  unfold rd rdTo
  rw [List.mem_append, List.mem_map]
  constructor
  · rintro (⟨j, hj, e⟩ | hs)
    · obtain rfl : j = i := by omega
      exact (List.mem_filter.1 hj).2
    · cases sw
      · simp at hs
      · simp at hs; omega
  · intro hx
    exact .inl ⟨i, List.mem_filter.2 ⟨List.mem_range.2 h, hx⟩, rfl⟩
theorem rd_sweeper (xs : List Int) (sw : Bool) : decide ((xs.length : Int) ∈ rd xs sw) = sw := by
  rw [Bool.eq_iff_iff, decide_eq_true_iff]
  unfold rd rdTo
  rw [List.mem_append, List.mem_map]
  constructor
  · rintro (⟨j, hj, e⟩ | hs)
    · have := List.mem_range.1 (List.mem_filter.1 hj).1
      omega
    · cases sw
      · simp at hs
      · rfl
  · rintro rfl
    exact .inr (by simp)

/-- the board: cell i holds whether i was picked -/
def Board (B : Nat) (W : World) (g : Nat → Bool) : Prop := (∀ i, i < 201 → W.cell? ⟨B, i, none⟩ = some (.bool (g i))) ∧ ∀ i, i < 201 → W.frozen? ⟨B, i, none⟩ = false

theorem Board.set {B : Nat} {W : World} {g g' : Nat → Bool} (h : Board B W g) (p : Nat) (hp : p < 201) (hg : ∀ i, g' i = (g i || (i == p))) : Board B (W.setCell ⟨B, p, none⟩ (.bool true)) g' := by
  refine ⟨fun i hi => ?_, fun i hi => by rw [World.frozen?_setCell]; exact h.2 i hi⟩
  by_cases e : i = p
  · subst e
    rw [World.cell?_setCell_same _ _ _ (h.1 i hi), hg]
    simp
  · rw [World.cell?_setCell_other _ _ _ _ (fun e' => e (by injection e' with _ e2; exact e2.symm)), h.1 i hi, hg]
    have : (i == p) = false := by simpa using e
    rw [this, Bool.or_false]

theorem Board.congr {B : Nat} {W : World} {g g' : Nat → Bool} (h : Board B W g) (hg : ∀ i, g' i = g i) : Board B W g' := ⟨fun i hi => by rw [hg]; exact h.1 i hi, h.2⟩
theorem Board.drewN {B : Nat} {W : World} {g : Nat → Bool} (h : Board B W g) (n : Nat) : Board B (W.drewN n) g := h

def falses : Array Value := Array.replicate 201 (.bool false)
theorem zero31 (w : World) : (zeroValue 31).run Try.prog w = .ok (.agg falses) w := by kernel_rfl

theorem board_start (W : World) (t : TypeId) : Board W.heap.size (W.alloc (.cells falses t)) (fun _ => false) :=
  ⟨fun i hi => by rw [World.cell?_alloc_new]; unfold falses; simp [hi], fun i _ => World.frozen?_alloc_new W _ t i⟩

set_option maxRecDepth 100000 in
set_option maxHeartbeats 4000000 in
theorem all_main (a : Option Addr) (len cap : Nat) (xs : List Int) (sw : Bool) (w : World) (hcm : cap ≤ 2 ^ 63 - 1) (n : Nat) (hn : n = min len 200) (hl : xs.length = n) (hr : Reads w.heap.size w a xs) (hlc : len ≤ cap) :
    Calls Try.prog 6 #[.slice a len cap, .bool sw] w fun e w' => e = .returned (.bool true) ∧ Below w.heap.size w w' := by
  have HR := Lib.hid hr
  have HXL := Lib.hid hl
  have hn2 : n ≤ 200 := by omega
  have H1 := ready_any a cap xs sw (by omega) w hr
  rw [hl] at H1
  have HC := Lib.hid H1
  clear hr hl H1
  have HB0 := Lib.hid (Below.refl w.heap.size w)
  have hz31 := zero31
  rcases Nat.lt_trichotomy len 200 with c1 | c1 | c1
  · obtain rfl : n = len := by omega
    clear hn
    go_enter Try.func6, Try.ntmps6
    go_wp2_with fail
    refine HC.out.mono ?_
    rintro e w2 ⟨v2, rfl, ⟨a2, cap2, rfl, hr2⟩, hb2⟩
    have HR2 := Lib.hid hr2
    have HB2 := Lib.hid hb2
    have HR1 := Lib.hid (HR.out.below hb2)
    clear hr2 hb2
    have hyl : (rd xs sw).length ≤ 201 := by
      have h1 := rdTo_len xs xs.length
      have h2 := HXL.out
      unfold rd
      rw [List.length_append]
      cases sw <;> simp <;> omega
    have HBd := Lib.hid (rd_bounds xs sw)
    have HHt := Lib.hid (rd_hart xs sw)
    have HSw := Lib.hid (rd_sweeper xs sw)
    generalize rd xs sw = ys at *
    have HBZ := Lib.hid HB2.out.size
    go_wp2
    go_loopw [7] (fun i wr => ∃ k : Nat, k ≤ 256 ∧ i = .int .i64 k ∧ Below w.heap.size w wr ∧ Below w2.heap.size w2 wr ∧ Board w2.heap.size wr (pickedTo ys k)) (fun i _ => 256 - (intOf i).toNat)
    case atStart => exact ⟨0, by omega, rfl, HB2.out.alloc HBZ.out _, (Below.refl _ _).alloc (Nat.le_refl _) _, board_start w2 31⟩
    case round =>
      obtain ⟨k, hk, rfl, hbw, hb2, hbo⟩ := hrel
      have HBW := Lib.hid hbw
      have HBX := Lib.hid hb2
      have HBO := Lib.hid hbo
      clear hbw hb2 hbo
      by_cases hlt : k < 256
      · have HP := Lib.hid (pick_any a2 cap2 ys k hlt _ wr (by unfold maxLen; omega) (HR2.out.below HBX.out))
        have hw8 : (k : Int) % 256 = k := by omega
        by_cases h0 : ys.length = 0
        · have hne : ys = [] := List.length_eq_zero_iff.1 h0
          have e1 : pkV ys k = 0 := by rw [hne]; rfl
          have e2 : pkE ys = 14 := by rw [hne]; rfl
          rw [e1, e2] at HP
          have HNE := Lib.hid hne
          have hz : ((ys.length : Int) == 0) = true := by simp [h0]
          clear h0 hne e1 e2 hyl
          generalize ys.length = yl at *
          go_wp2_with (go_at_call 12; refine HP.out.mono ?_; rintro e w3 ⟨rfl, rfl⟩)
          go_roundw
          case rel => exact ⟨k + 1, by omega, by go_num, HBW.out, HBX.out, HBO.out.congr (fun i => by rw [pickedTo, HNE.out]; simp)⟩
          case measure => simp [intOf]; omega
        · have e2 : pkE ys = 0 := by unfold pkE; rw [if_neg h0]
          rw [e2] at HP
          have hz : ((ys.length : Int) == 0) = false := by simp; intro h; exact h0 (by simp [h])
          have hne : ys ≠ [] := fun e => h0 (by rw [e]; rfl)
          have hbd := HBd.out _ (pkV_mem ys k hne)
          obtain ⟨p, hp⟩ : ∃ p : Nat, pkV ys k = (p : Int) := ⟨(pkV ys k).toNat, by omega⟩
          have HST := Lib.hid (show ∀ i, pickedTo ys (k + 1) i = (pickedTo ys k i || (i == p)) from fun i => by
            have he : ys.isEmpty = false := by cases ys with
              | nil => exact absurd rfl hne
              | cons _ _ => rfl
            rw [pickedTo, hp, he, Bool.not_false, Bool.true_and]
            congr 1
            rw [Bool.eq_iff_iff, beq_iff_eq, beq_iff_eq]
            omega)
          rw [hp] at HP hbd
          have hpn : p ≤ n := by have := HXL.out; omega
          have hcl := HBO.out.1 p (by omega)
          have hfz := HBO.out.2 p (by omega)
          clear hbd hp h0 hne e2
          generalize pickedTo ys k p = q0 at hcl
          go_wp2_with (go_at_call 12; refine HP.out.mono ?_; rintro e w3 ⟨rfl, rfl⟩)
          go_roundw
          case rel => exact ⟨k + 1, by omega, by go_num, HBW.out.setCell HBZ.out _, HBX.out.setCell (Nat.le_refl _) _, HBO.out.set p (by omega) HST.out⟩
          case measure => simp [intOf]; omega
      · obtain rfl : k = 256 := by omega
        have HG := Lib.hid (picked_all ys (by omega))
        go_wp2
        obtain ⟨wo, hwo⟩ : ∃ wo : World, wo = wr := ⟨_, rfl⟩
        subst hwo
        go_loopw [10] (fun i wr => ∃ k : Nat, k ≤ n ∧ i = .int .i64 k ∧ Below w.heap.size w wr ∧ Board w2.heap.size wr (pickedTo ys 256)) (fun i _ => n - (intOf i).toNat)
        case atStart => exact ⟨0, by omega, rfl, HBW.out, HBO.out⟩
        case round =>
          obtain ⟨j, hj, rfl, hbw, hbo⟩ := hrel
          have HBW2 := Lib.hid hbw
          have HBO2 := Lib.hid hbo
          clear hbw hbo
          by_cases hjn : j < n
          · have hc1 := HBO2.out.1 j (by omega)
            rw [HG.out j, HHt.out j (by have := HXL.out; omega)] at hc1
            have hq : Reads w.heap.size wr a xs := HR.out.below HBW2.out
            rcases hq with hq | ⟨b3, o3, rfl, _, hc3⟩
            · exfalso; have := HXL.out; rw [hq] at this; simp at this <;> omega
            have g3 := hc3 j (by have := HXL.out; omega)
            clear hc3
            generalize xs.getD j 0 = y at hc1 g3
            have gy : ((y == 0) != (y == 0)) = false := by simp
            go_wp2
            go_quiet (fail)
            go_wp2
            go_roundw
            case rel => exact ⟨j + 1, by omega, by go_num, drewN_below HBW2.out _, HBO2.out.drewN _⟩
            case measure => simp [intOf]; omega
          · obtain rfl : n = j := by omega
            have hc1 := HBO2.out.1 n (by omega)
            have hsw : pickedTo ys 256 n = sw := by
              have h1 := HSw.out
              rw [HXL.out] at h1
              rw [HG.out n]; exact h1
            rw [hsw] at hc1
            clear hsw
            have gy : (sw == sw) = true := by simp
            go_wp2_with (go_at_call 11; refine (works_in w _ HBW2.out).mono ?_; rintro e w4 ⟨rfl, hb4⟩)
            go_ret
            exact ⟨rfl, hb4⟩
  · subst c1
    obtain rfl : n = 200 := by omega
    clear hn
    go_enter Try.func6, Try.ntmps6
    go_wp2_with fail
    refine HC.out.mono ?_
    rintro e w2 ⟨v2, rfl, ⟨a2, cap2, rfl, hr2⟩, hb2⟩
    have HR2 := Lib.hid hr2
    have HB2 := Lib.hid hb2
    have HR1 := Lib.hid (HR.out.below hb2)
    clear hr2 hb2
    have hyl : (rd xs sw).length ≤ 201 := by
      have h1 := rdTo_len xs xs.length
      have h2 := HXL.out
      unfold rd
      rw [List.length_append]
      cases sw <;> simp <;> omega
    have HBd := Lib.hid (rd_bounds xs sw)
    have HHt := Lib.hid (rd_hart xs sw)
    have HSw := Lib.hid (rd_sweeper xs sw)
    generalize rd xs sw = ys at *
    have HBZ := Lib.hid HB2.out.size
    go_wp2
    go_loopw [7] (fun i wr => ∃ k : Nat, k ≤ 256 ∧ i = .int .i64 k ∧ Below w.heap.size w wr ∧ Below w2.heap.size w2 wr ∧ Board w2.heap.size wr (pickedTo ys k)) (fun i _ => 256 - (intOf i).toNat)
    case atStart => exact ⟨0, by omega, rfl, HB2.out.alloc HBZ.out _, (Below.refl _ _).alloc (Nat.le_refl _) _, board_start w2 31⟩
    case round =>
      obtain ⟨k, hk, rfl, hbw, hb2, hbo⟩ := hrel
      have HBW := Lib.hid hbw
      have HBX := Lib.hid hb2
      have HBO := Lib.hid hbo
      clear hbw hb2 hbo
      by_cases hlt : k < 256
      · have HP := Lib.hid (pick_any a2 cap2 ys k hlt _ wr (by unfold maxLen; omega) (HR2.out.below HBX.out))
        have hw8 : (k : Int) % 256 = k := by omega
        by_cases h0 : ys.length = 0
        · have hne : ys = [] := List.length_eq_zero_iff.1 h0
          have e1 : pkV ys k = 0 := by rw [hne]; rfl
          have e2 : pkE ys = 14 := by rw [hne]; rfl
          rw [e1, e2] at HP
          have HNE := Lib.hid hne
          have hz : ((ys.length : Int) == 0) = true := by simp [h0]
          clear h0 hne e1 e2 hyl
          generalize ys.length = yl at *
          go_wp2_with (go_at_call 12; refine HP.out.mono ?_; rintro e w3 ⟨rfl, rfl⟩)
          go_roundw
          case rel => exact ⟨k + 1, by omega, by go_num, HBW.out, HBX.out, HBO.out.congr (fun i => by rw [pickedTo, HNE.out]; simp)⟩
          case measure => simp [intOf]; omega
        · have e2 : pkE ys = 0 := by unfold pkE; rw [if_neg h0]
          rw [e2] at HP
          have hz : ((ys.length : Int) == 0) = false := by simp; intro h; exact h0 (by simp [h])
          have hne : ys ≠ [] := fun e => h0 (by rw [e]; rfl)
          have hbd := HBd.out _ (pkV_mem ys k hne)
          obtain ⟨p, hp⟩ : ∃ p : Nat, pkV ys k = (p : Int) := ⟨(pkV ys k).toNat, by omega⟩
          have HST := Lib.hid (show ∀ i, pickedTo ys (k + 1) i = (pickedTo ys k i || (i == p)) from fun i => by
            have he : ys.isEmpty = false := by cases ys with
              | nil => exact absurd rfl hne
              | cons _ _ => rfl
            rw [pickedTo, hp, he, Bool.not_false, Bool.true_and]
            congr 1
            rw [Bool.eq_iff_iff, beq_iff_eq, beq_iff_eq]
            omega)
          rw [hp] at HP hbd
          have hpn : p ≤ 200 := by have := HXL.out; omega
          have hcl := HBO.out.1 p (by omega)
          have hfz := HBO.out.2 p (by omega)
          clear hbd hp h0 hne e2
          generalize pickedTo ys k p = q0 at hcl
          go_wp2_with (go_at_call 12; refine HP.out.mono ?_; rintro e w3 ⟨rfl, rfl⟩)
          go_roundw
          case rel => exact ⟨k + 1, by omega, by go_num, HBW.out.setCell HBZ.out _, HBX.out.setCell (Nat.le_refl _) _, HBO.out.set p (by omega) HST.out⟩
          case measure => simp [intOf]; omega
      · obtain rfl : k = 256 := by omega
        have HG := Lib.hid (picked_all ys (by omega))
        go_wp2
        obtain ⟨wo, hwo⟩ : ∃ wo : World, wo = wr := ⟨_, rfl⟩
        subst hwo
        go_loopw [10] (fun i wr => ∃ k : Nat, k ≤ 200 ∧ i = .int .i64 k ∧ Below w.heap.size w wr ∧ Board w2.heap.size wr (pickedTo ys 256)) (fun i _ => 200 - (intOf i).toNat)
        case atStart => exact ⟨0, by omega, rfl, HBW.out, HBO.out⟩
        case round =>
          obtain ⟨j, hj, rfl, hbw, hbo⟩ := hrel
          have HBW2 := Lib.hid hbw
          have HBO2 := Lib.hid hbo
          clear hbw hbo
          by_cases hjn : j < 200
          · have hc1 := HBO2.out.1 j (by omega)
            rw [HG.out j, HHt.out j (by have := HXL.out; omega)] at hc1
            have hq : Reads w.heap.size wr a xs := HR.out.below HBW2.out
            rcases hq with hq | ⟨b3, o3, rfl, _, hc3⟩
            · exfalso; have := HXL.out; rw [hq] at this; simp at this <;> omega
            have g3 := hc3 j (by have := HXL.out; omega)
            clear hc3
            generalize xs.getD j 0 = y at hc1 g3
            have gy : ((y == 0) != (y == 0)) = false := by simp
            go_wp2
            go_quiet (fail)
            go_wp2
            go_roundw
            case rel => exact ⟨j + 1, by omega, by go_num, drewN_below HBW2.out _, HBO2.out.drewN _⟩
            case measure => simp [intOf]; omega
          · obtain rfl : 200 = j := by omega
            have hc1 := HBO2.out.1 200 (by omega)
            have hsw : pickedTo ys 256 200 = sw := by
              have h1 := HSw.out
              rw [HXL.out] at h1
              rw [HG.out 200]; exact h1
            rw [hsw] at hc1
            clear hsw
            have gy : (sw == sw) = true := by simp
            go_wp2_with (go_at_call 11; refine (works_in w _ HBW2.out).mono ?_; rintro e w4 ⟨rfl, hb4⟩)
            go_ret
            exact ⟨rfl, hb4⟩
  · obtain rfl : n = 200 := by omega
    clear hn
    go_enter Try.func6, Try.ntmps6
    go_wp2_with fail
    refine HC.out.mono ?_
    rintro e w2 ⟨v2, rfl, ⟨a2, cap2, rfl, hr2⟩, hb2⟩
    have HR2 := Lib.hid hr2
    have HB2 := Lib.hid hb2
    have HR1 := Lib.hid (HR.out.below hb2)
    clear hr2 hb2
    have hyl : (rd xs sw).length ≤ 201 := by
      have h1 := rdTo_len xs xs.length
      have h2 := HXL.out
      unfold rd
      rw [List.length_append]
      cases sw <;> simp <;> omega
    have HBd := Lib.hid (rd_bounds xs sw)
    have HHt := Lib.hid (rd_hart xs sw)
    have HSw := Lib.hid (rd_sweeper xs sw)
    generalize rd xs sw = ys at *
    have HBZ := Lib.hid HB2.out.size
    go_wp2
    go_loopw [7] (fun i wr => ∃ k : Nat, k ≤ 256 ∧ i = .int .i64 k ∧ Below w.heap.size w wr ∧ Below w2.heap.size w2 wr ∧ Board w2.heap.size wr (pickedTo ys k)) (fun i _ => 256 - (intOf i).toNat)
    case atStart => exact ⟨0, by omega, rfl, HB2.out.alloc HBZ.out _, (Below.refl _ _).alloc (Nat.le_refl _) _, board_start w2 31⟩
    case round =>
      obtain ⟨k, hk, rfl, hbw, hb2, hbo⟩ := hrel
      have HBW := Lib.hid hbw
      have HBX := Lib.hid hb2
      have HBO := Lib.hid hbo
      clear hbw hb2 hbo
      by_cases hlt : k < 256
      · have HP := Lib.hid (pick_any a2 cap2 ys k hlt _ wr (by unfold maxLen; omega) (HR2.out.below HBX.out))
        have hw8 : (k : Int) % 256 = k := by omega
        by_cases h0 : ys.length = 0
        · have hne : ys = [] := List.length_eq_zero_iff.1 h0
          have e1 : pkV ys k = 0 := by rw [hne]; rfl
          have e2 : pkE ys = 14 := by rw [hne]; rfl
          rw [e1, e2] at HP
          have HNE := Lib.hid hne
          have hz : ((ys.length : Int) == 0) = true := by simp [h0]
          clear h0 hne e1 e2 hyl
          generalize ys.length = yl at *
          go_wp2_with (go_at_call 12; refine HP.out.mono ?_; rintro e w3 ⟨rfl, rfl⟩)
          go_roundw
          case rel => exact ⟨k + 1, by omega, by go_num, HBW.out, HBX.out, HBO.out.congr (fun i => by rw [pickedTo, HNE.out]; simp)⟩
          case measure => simp [intOf]; omega
        · have e2 : pkE ys = 0 := by unfold pkE; rw [if_neg h0]
          rw [e2] at HP
          have hz : ((ys.length : Int) == 0) = false := by simp; intro h; exact h0 (by simp [h])
          have hne : ys ≠ [] := fun e => h0 (by rw [e]; rfl)
          have hbd := HBd.out _ (pkV_mem ys k hne)
          obtain ⟨p, hp⟩ : ∃ p : Nat, pkV ys k = (p : Int) := ⟨(pkV ys k).toNat, by omega⟩
          have HST := Lib.hid (show ∀ i, pickedTo ys (k + 1) i = (pickedTo ys k i || (i == p)) from fun i => by
            have he : ys.isEmpty = false := by cases ys with
              | nil => exact absurd rfl hne
              | cons _ _ => rfl
            rw [pickedTo, hp, he, Bool.not_false, Bool.true_and]
            congr 1
            rw [Bool.eq_iff_iff, beq_iff_eq, beq_iff_eq]
            omega)
          rw [hp] at HP hbd
          have hpn : p ≤ 200 := by have := HXL.out; omega
          have hcl := HBO.out.1 p (by omega)
          have hfz := HBO.out.2 p (by omega)
          clear hbd hp h0 hne e2
          generalize pickedTo ys k p = q0 at hcl
          go_wp2_with (go_at_call 12; refine HP.out.mono ?_; rintro e w3 ⟨rfl, rfl⟩)
          go_roundw
          case rel => exact ⟨k + 1, by omega, by go_num, HBW.out.setCell HBZ.out _, HBX.out.setCell (Nat.le_refl _) _, HBO.out.set p (by omega) HST.out⟩
          case measure => simp [intOf]; omega
      · obtain rfl : k = 256 := by omega
        have HG := Lib.hid (picked_all ys (by omega))
        go_wp2
        obtain ⟨wo, hwo⟩ : ∃ wo : World, wo = wr := ⟨_, rfl⟩
        subst hwo
        go_loopw [10] (fun i wr => ∃ k : Nat, k ≤ 200 ∧ i = .int .i64 k ∧ Below w.heap.size w wr ∧ Board w2.heap.size wr (pickedTo ys 256)) (fun i _ => 200 - (intOf i).toNat)
        case atStart => exact ⟨0, by omega, rfl, HBW.out, HBO.out⟩
        case round =>
          obtain ⟨j, hj, rfl, hbw, hbo⟩ := hrel
          have HBW2 := Lib.hid hbw
          have HBO2 := Lib.hid hbo
          clear hbw hbo
          by_cases hjn : j < 200
          · have hc1 := HBO2.out.1 j (by omega)
            rw [HG.out j, HHt.out j (by have := HXL.out; omega)] at hc1
            have hq : Reads w.heap.size wr a xs := HR.out.below HBW2.out
            rcases hq with hq | ⟨b3, o3, rfl, _, hc3⟩
            · exfalso; have := HXL.out; rw [hq] at this; simp at this <;> omega
            have g3 := hc3 j (by have := HXL.out; omega)
            clear hc3
            generalize xs.getD j 0 = y at hc1 g3
            have gy : ((y == 0) != (y == 0)) = false := by simp
            go_wp2
            go_quiet (fail)
            go_wp2
            go_roundw
            case rel => exact ⟨j + 1, by omega, by go_num, drewN_below HBW2.out _, HBO2.out.drewN _⟩
            case measure => simp [intOf]; omega
          · obtain rfl : 200 = j := by omega
            have hc1 := HBO2.out.1 200 (by omega)
            have hsw : pickedTo ys 256 200 = sw := by
              have h1 := HSw.out
              rw [HXL.out] at h1
              rw [HG.out 200]; exact h1
            rw [hsw] at hc1
            clear hsw
            have gy : (sw == sw) = true := by simp
            go_wp2_with (go_at_call 11; refine (works_in w _ HBW2.out).mono ?_; rintro e w4 ⟨rfl, hb4⟩)
            go_ret
            exact ⟨rfl, hb4⟩

theorem all_walk (a : Option Addr) (len cap : Nat) (zs : List Int) (sw : Bool) (w : World) (h : IsRow .i64 w a len cap zs) :
    Calls Try.prog 6 #[.slice a len cap, .bool sw] w fun e w' => e = .returned (.bool true) ∧ Below w.heap.size w w' := by
  have hcm := cap_le h
  obtain ⟨hl, hr, _, hlc⟩ := row_reads h (min len 200) (by omega)
  exact all_main a len cap (zs.take (min len 200)) sw w hcm _ rfl hl hr hlc
end Go.Proofs.Ytcgjijcjgchhiaa
