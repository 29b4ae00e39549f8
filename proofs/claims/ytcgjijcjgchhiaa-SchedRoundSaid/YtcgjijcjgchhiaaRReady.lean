/- What the document's Ready answers; the walk of SchedReady: for any states, a thousand of them looked at. -/
import Derived.Test.YtcgjijcjgchhiaaRFair
import Derived.OwnWalk
import Derived.Deep.QuietTactic
import Derived.BigQuiet
namespace Go.Proofs.Ytcgjijcjgchhiaa
open Go.RowKit Go.Shelf Go.Maps Go.ChangeShapes

set_option maxRecDepth 100000 in
set_option maxHeartbeats 2000000 in
theorem rready_any (a : Option Addr) (cap : Nat) (zs : List Int) (sw : Bool) (hlen : zs.length ≤ 1000000) (w : World) (N : Nat) (hN : N ≤ w.heap.size) (hL : Reads N w a zs) :
    Calls Try.prog 10 #[.slice a zs.length cap, .bool sw] w fun e W' => ∃ v, e = .returned v ∧ Holds W' v (rd zs sw) ∧ Below w.heap.size w W' := by
  obtain ⟨i0, hi, hz0, hz1, hz2⟩ := info_parts info3
  have HL := Lib.hid hL
  clear hL
  go_enter Try.func10, Try.ntmps10
  go_wp2
  go_loopw [5, 6] (fun v i wr => ∃ k : Nat, k ≤ zs.length ∧ i = .int .i64 k ∧ wr.ownsRow w.heap.size 3 1 v (rdTo zs k).length ((rdTo zs k).map (Value.int .i64)) ∧ Below w.heap.size w wr) (fun _ i _ => zs.length - (intOf i).toNat)
  case atStart => exact ⟨0, Nat.zero_le _, rfl, World.ownsRow_nil _ _ _ _, Below.refl _ _⟩
  case round =>
    obtain ⟨k, hk, rfl, hown, hb⟩ := hrel
    have hkl := rdTo_len zs k
    have hbs := hb.size
    by_cases hlt : k < zs.length
    · rcases HL.out with rfl | ⟨b, o, rfl, hbn, hcell⟩
      · simp at hlt
      have hc : wr.cell? ⟨b, o + k, none⟩ = some (.int .i64 (zs.getD k 0)) := by rw [hb.cell (p := ⟨b, o + k, none⟩) (by show b < _; omega)]; exact hcell k hlt
      have hsn := rdTo_succ zs k
      have HB := Lib.hid hb
      clear hcell hb
      generalize hx : zs.getD k 0 = x at hc hsn
      have HX := Lib.hid hx
      clear hx
      generalize hys : rdTo zs k = ys at *
      have HY := Lib.hid hys
      clear hys
      by_cases hx0 : (x == 0) = true
      · rw [if_pos hx0] at hsn
        have HS := Lib.hid hsn
        clear hsn
        go_wp2_with (at_builtin; refine wpList_append_own _ rfl _ _ 22 rfl w.heap.size 3 i0 (.int .i64 0) 1 8 Try.underlying22 hi hz0 hz1 hz2 rfl (by decide) _ _ _ rfl (hown.alloc _) ⟨wr.heap.size, 0, none⟩ 1 1 [.int .i64 (k : Int)] rfl rfl (cell_one_new _ _ _) (by simp [Value.oneCell']) (by unfold maxLen; omega) (by omega) (by simp; omega) ?_; intro v' w1 hown' hgrow _)
        go_roundw
        case rel => exact ⟨k + 1, by omega, by go_num, by rw [HS.out]; simpa using hown', (HB.out.alloc hbs _).grown hgrow (by simp; omega) (fun j hj => by have := (hown.lt j hj).1; exact this)⟩
        case measure => simp [intOf]; omega
      · rw [if_neg hx0, List.append_nil] at hsn
        have hx0' : (x == 0) = false := by simpa using hx0
        have HS := Lib.hid hsn
        have HO := Lib.hid hown
        clear hsn hx0 hown
        go_wp2
        go_roundw
        case rel => exact ⟨k + 1, by omega, by go_num, by rw [HS.out]; exact HO.out, HB.out⟩
        case measure => simp [intOf]; omega
    · obtain rfl : k = zs.length := by omega
      have HB := Lib.hid hb
      clear hb
      cases sw with
      | false =>
        have HO := Lib.hid hown
        clear hown
        go_wp2
        go_ret
        exact ⟨_, rfl, holds_of_row (by simpa [rd] using HO.out), HB.out⟩
      | true =>
        have hys : rd zs true = rdTo zs zs.length ++ [(zs.length : Int)] := rfl
        have HYS := Lib.hid hys
        clear hys
        generalize rdTo zs zs.length = ys at *
        go_wp2_with (at_builtin; refine wpList_append_own _ rfl _ _ 22 rfl w.heap.size 3 i0 (.int .i64 0) 1 8 Try.underlying22 hi hz0 hz1 hz2 rfl (by decide) _ _ _ rfl (hown.alloc _) ⟨wr.heap.size, 0, none⟩ 1 1 [.int .i64 (zs.length : Int)] rfl rfl (cell_one_new _ _ _) (by simp [Value.oneCell']) (by unfold maxLen; omega) (by omega) (by simp; omega) ?_; intro v' w1 hown' hgrow _)
        go_ret
        exact ⟨_, rfl, holds_of_row (by rw [HYS.out]; simpa using hown'), (HB.out.alloc hbs _).grown hgrow (by simp; omega) (fun j hj => by have := (hown.lt j hj).1; exact this)⟩

theorem drewN_below {B : Nat} {a w : World} (h : Below B a w) (n : Nat) : Below B a (w.drewN n) := ⟨h.os, h.tape, h.output, h.size, h.block⟩

/-- the state behind the states' copy: the copy is read by both, and what they answer is compared -/
def Copied (w W : World) (v : Value) (xs : List Int) : Prop := Holds W v xs ∧ Below w.heap.size w W

theorem copied_of {w W W' : World} {v : Value} {n m : Nat} {xs : List Int} (hx : xs.length = n) (hm : m = n) (h : W'.ownsRow w.heap.size 3 1 v (0 + m) ([] ++ xs.map (Value.int .i64))) (hb : Below w.heap.size w W) (hg : W.grownBy W' none) : Copied w W' v xs := by
  subst hx hm
  rw [Nat.zero_add, List.nil_append] at h
  exact ⟨holds_of_row h, hb.grown hg hb.size (fun j e => by cases e)⟩

set_option maxRecDepth 100000 in
set_option maxHeartbeats 4000000 in
theorem ready_some (ad : Addr) (len cap : Nat) (xs : List Int) (sw : Bool) (w : World) (hcm : cap ≤ 2 ^ 63 - 1) (n : Nat) (hn : n = min len 1000) (hl : xs.length = n) (hr : Reads w.heap.size w (some ad) xs) (hlc : len ≤ cap) :
    Calls Try.prog 3 #[.slice (some ad) len cap, .bool sw] w fun e w' => e = .returned (.bool true) ∧ Below w.heap.size w w' := by
  obtain ⟨i0, hi, hz0, hz1, hz2⟩ := info_parts info3
  have hnews : ∀ j u, (xs.map (Value.int .i64))[j]? = some u → w.cell? (ad.add j) = some u := by
    intro j u hj
    rcases hr with rfl | ⟨b, o, e, hbn, hcell⟩
    · simp at hj
    · cases e
      rw [List.getElem?_map] at hj
      cases hx : xs[j]? with
      | none => rw [hx] at hj; cases hj
      | some x =>
        rw [hx] at hj
        cases hj
        have hjl : j < xs.length := (List.getElem?_eq_some_iff.1 hx).1
        have := hcell j hjl
        rw [List.getD_eq_getElem?_getD, hx] at this
        rw [Go.WideShapes.add_plain]
        exact this
  have HN := Lib.hid hnews
  have hx1 : (xs.map (Value.int .i64)).length = n * 1 := by rw [List.length_map, hl, Nat.mul_one]
  have HX1 := Lib.hid hx1
  have HXL := Lib.hid hl
  have hn2 : n ≤ 1000 := by omega
  have H10 := Lib.hid (fun (u : Value) (hu : u ∈ xs.map (Value.int .i64)) => show u.oneCell' = true by
    obtain ⟨x, _, rfl⟩ := List.mem_map.1 hu; rfl)
  clear hnews hx1 hl hr
  have HB0 := Lib.hid (Below.refl w.heap.size w)
  rcases Nat.lt_trichotomy len 1000 with c1 | c1 | c1
  · obtain rfl : n = len := by omega
    clear hn
    go_enter Try.func3, Try.ntmps3
    go_wp2_with (at_builtin; refine wpList_append_own _ rfl _ _ 22 rfl w.heap.size 3 i0 (.int .i64 0) 1 8 Try.underlying22 hi hz0 hz1 hz2 rfl (by decide) _ 0 [] rfl (World.ownsRow_nil _ _ _ _) ad n _ (xs.map (Value.int .i64)) rfl HX1.out HN.out H10.out (by unfold maxLen; omega) (by omega) (Nat.le_refl _) ?_; intro v' w1 hown' hgrow _)
    obtain ⟨hh, hB1⟩ := copied_of HXL.out rfl hown' HB0.out hgrow
    obtain ⟨a1, cap1, rfl, hr1⟩ := hh
    clear hown' hgrow
    have HR1 := Lib.hid hr1
    have HB1 := Lib.hid hB1
    clear hr1 hB1
    go_wp2_with fail
    refine (ready_any a1 cap1 xs sw (by have := HXL.out; omega) w1 HR1.out).mono ?_
    rintro e w2 ⟨v2, rfl, ⟨a2, cap2, rfl, hr2⟩, hb2⟩
    have HR2 := Lib.hid hr2
    have HB2 := Lib.hid (HB1.out.trans (hb2.mono HB1.out.size))
    have HR1' := Lib.hid (HR1.out.below hb2)
    have HS2 := Lib.hid hb2.size
    clear hr2 hb2
    go_wp2_with fail
    refine (rready_any a1 cap1 xs sw (by have := HXL.out; omega) w2 w1.heap.size HS2.out HR1'.out).mono ?_
    rintro e w3 ⟨v3, rfl, ⟨a3, cap3, rfl, hr3⟩, hb3⟩
    have HR3 := Lib.hid hr3
    have HB3 := Lib.hid (HB2.out.trans (hb3.mono HB2.out.size))
    have HR2' := Lib.hid ((HR2.out.below hb3).mono hb3.size)
    clear hr3 hb3
    have hyl : (rd xs sw).length ≤ 1001 := by
      have h1 := rdTo_len xs xs.length
      have h2 := HXL.out
      unfold rd
      rw [List.length_append]
      cases sw <;> simp <;> omega
    generalize rd xs sw = ys at *
    go_wp2
    go_loopw [8] (fun i wr => ∃ k : Nat, k ≤ ys.length ∧ i = .int .i64 k ∧ Below w.heap.size w wr ∧ Reads w3.heap.size wr a2 ys ∧ Reads w3.heap.size wr a3 ys) (fun i _ => ys.length - (intOf i).toNat)
    case atStart => exact ⟨0, Nat.zero_le _, rfl, HB3.out, HR2'.out, HR3.out⟩
    case round =>
      obtain ⟨k, hk, rfl, hBr, hq2, hq3⟩ := hrel
      have HQB := Lib.hid hBr
      have HQ2 := Lib.hid hq2
      have HQ3 := Lib.hid hq3
      clear hBr hq2 hq3
      by_cases hlt : k < ys.length
      · rcases HQ2.out with rfl | ⟨b2, o2, rfl, _, hc2⟩
        · simp at hlt
        rcases HQ3.out with rfl | ⟨b3, o3, rfl, _, hc3⟩
        · simp at hlt
        have g2 := hc2 k hlt
        have g3 := hc3 k hlt
        clear hc2 hc3
        generalize ys.getD k 0 = y at g2 g3
        have gy : (y != y) = false := by simp
        go_wp2
        go_quiet (fail)
        go_wp2
        go_roundw
        case rel => exact ⟨k + 1, by omega, by go_num, drewN_below HQB.out _, HQ2.out.below (drewN_below (Below.refl _ _) _), HQ3.out.below (drewN_below (Below.refl _ _) _)⟩
        case measure => simp [intOf]; omega
      · obtain rfl : k = ys.length := by omega
        go_wp2_with (go_at_call 11; refine (works_in w _ HQB.out).mono ?_; rintro e w4 ⟨rfl, hb4⟩)
        go_ret
        exact ⟨rfl, hb4⟩
  · subst c1
    obtain rfl : n = 1000 := by omega
    clear hn
    go_enter Try.func3, Try.ntmps3
    go_wp2_with (at_builtin; refine wpList_append_own _ rfl _ _ 22 rfl w.heap.size 3 i0 (.int .i64 0) 1 8 Try.underlying22 hi hz0 hz1 hz2 rfl (by decide) _ 0 [] rfl (World.ownsRow_nil _ _ _ _) ad 1000 _ (xs.map (Value.int .i64)) rfl HX1.out HN.out H10.out (by unfold maxLen; omega) (by omega) (Nat.le_refl _) ?_; intro v' w1 hown' hgrow _)
    obtain ⟨hh, hB1⟩ := copied_of HXL.out rfl hown' HB0.out hgrow
    obtain ⟨a1, cap1, rfl, hr1⟩ := hh
    clear hown' hgrow
    have HR1 := Lib.hid hr1
    have HB1 := Lib.hid hB1
    clear hr1 hB1
    go_wp2_with fail
    refine (ready_any a1 cap1 xs sw (by have := HXL.out; omega) w1 HR1.out).mono ?_
    rintro e w2 ⟨v2, rfl, ⟨a2, cap2, rfl, hr2⟩, hb2⟩
    have HR2 := Lib.hid hr2
    have HB2 := Lib.hid (HB1.out.trans (hb2.mono HB1.out.size))
    have HR1' := Lib.hid (HR1.out.below hb2)
    have HS2 := Lib.hid hb2.size
    clear hr2 hb2
    go_wp2_with fail
    refine (rready_any a1 cap1 xs sw (by have := HXL.out; omega) w2 w1.heap.size HS2.out HR1'.out).mono ?_
    rintro e w3 ⟨v3, rfl, ⟨a3, cap3, rfl, hr3⟩, hb3⟩
    have HR3 := Lib.hid hr3
    have HB3 := Lib.hid (HB2.out.trans (hb3.mono HB2.out.size))
    have HR2' := Lib.hid ((HR2.out.below hb3).mono hb3.size)
    clear hr3 hb3
    have hyl : (rd xs sw).length ≤ 1001 := by
      have h1 := rdTo_len xs xs.length
      have h2 := HXL.out
      unfold rd
      rw [List.length_append]
      cases sw <;> simp <;> omega
    generalize rd xs sw = ys at *
    go_wp2
    go_loopw [8] (fun i wr => ∃ k : Nat, k ≤ ys.length ∧ i = .int .i64 k ∧ Below w.heap.size w wr ∧ Reads w3.heap.size wr a2 ys ∧ Reads w3.heap.size wr a3 ys) (fun i _ => ys.length - (intOf i).toNat)
    case atStart => exact ⟨0, Nat.zero_le _, rfl, HB3.out, HR2'.out, HR3.out⟩
    case round =>
      obtain ⟨k, hk, rfl, hBr, hq2, hq3⟩ := hrel
      have HQB := Lib.hid hBr
      have HQ2 := Lib.hid hq2
      have HQ3 := Lib.hid hq3
      clear hBr hq2 hq3
      by_cases hlt : k < ys.length
      · rcases HQ2.out with rfl | ⟨b2, o2, rfl, _, hc2⟩
        · simp at hlt
        rcases HQ3.out with rfl | ⟨b3, o3, rfl, _, hc3⟩
        · simp at hlt
        have g2 := hc2 k hlt
        have g3 := hc3 k hlt
        clear hc2 hc3
        generalize ys.getD k 0 = y at g2 g3
        have gy : (y != y) = false := by simp
        go_wp2
        go_quiet (fail)
        go_wp2
        go_roundw
        case rel => exact ⟨k + 1, by omega, by go_num, drewN_below HQB.out _, HQ2.out.below (drewN_below (Below.refl _ _) _), HQ3.out.below (drewN_below (Below.refl _ _) _)⟩
        case measure => simp [intOf]; omega
      · obtain rfl : k = ys.length := by omega
        go_wp2_with (go_at_call 11; refine (works_in w _ HQB.out).mono ?_; rintro e w4 ⟨rfl, hb4⟩)
        go_ret
        exact ⟨rfl, hb4⟩
  · obtain rfl : n = 1000 := by omega
    clear hn
    go_enter Try.func3, Try.ntmps3
    go_wp2_with (at_builtin; refine wpList_append_own _ rfl _ _ 22 rfl w.heap.size 3 i0 (.int .i64 0) 1 8 Try.underlying22 hi hz0 hz1 hz2 rfl (by decide) _ 0 [] rfl (World.ownsRow_nil _ _ _ _) ad 1000 _ (xs.map (Value.int .i64)) rfl HX1.out HN.out H10.out (by unfold maxLen; omega) (by omega) (Nat.le_refl _) ?_; intro v' w1 hown' hgrow _)
    obtain ⟨hh, hB1⟩ := copied_of HXL.out rfl hown' HB0.out hgrow
    obtain ⟨a1, cap1, rfl, hr1⟩ := hh
    clear hown' hgrow
    have HR1 := Lib.hid hr1
    have HB1 := Lib.hid hB1
    clear hr1 hB1
    go_wp2_with fail
    refine (ready_any a1 cap1 xs sw (by have := HXL.out; omega) w1 HR1.out).mono ?_
    rintro e w2 ⟨v2, rfl, ⟨a2, cap2, rfl, hr2⟩, hb2⟩
    have HR2 := Lib.hid hr2
    have HB2 := Lib.hid (HB1.out.trans (hb2.mono HB1.out.size))
    have HR1' := Lib.hid (HR1.out.below hb2)
    have HS2 := Lib.hid hb2.size
    clear hr2 hb2
    go_wp2_with fail
    refine (rready_any a1 cap1 xs sw (by have := HXL.out; omega) w2 w1.heap.size HS2.out HR1'.out).mono ?_
    rintro e w3 ⟨v3, rfl, ⟨a3, cap3, rfl, hr3⟩, hb3⟩
    have HR3 := Lib.hid hr3
    have HB3 := Lib.hid (HB2.out.trans (hb3.mono HB2.out.size))
    have HR2' := Lib.hid ((HR2.out.below hb3).mono hb3.size)
    clear hr3 hb3
    have hyl : (rd xs sw).length ≤ 1001 := by
      have h1 := rdTo_len xs xs.length
      have h2 := HXL.out
      unfold rd
      rw [List.length_append]
      cases sw <;> simp <;> omega
    generalize rd xs sw = ys at *
    go_wp2
    go_loopw [8] (fun i wr => ∃ k : Nat, k ≤ ys.length ∧ i = .int .i64 k ∧ Below w.heap.size w wr ∧ Reads w3.heap.size wr a2 ys ∧ Reads w3.heap.size wr a3 ys) (fun i _ => ys.length - (intOf i).toNat)
    case atStart => exact ⟨0, Nat.zero_le _, rfl, HB3.out, HR2'.out, HR3.out⟩
    case round =>
      obtain ⟨k, hk, rfl, hBr, hq2, hq3⟩ := hrel
      have HQB := Lib.hid hBr
      have HQ2 := Lib.hid hq2
      have HQ3 := Lib.hid hq3
      clear hBr hq2 hq3
      by_cases hlt : k < ys.length
      · rcases HQ2.out with rfl | ⟨b2, o2, rfl, _, hc2⟩
        · simp at hlt
        rcases HQ3.out with rfl | ⟨b3, o3, rfl, _, hc3⟩
        · simp at hlt
        have g2 := hc2 k hlt
        have g3 := hc3 k hlt
        clear hc2 hc3
        generalize ys.getD k 0 = y at g2 g3
        have gy : (y != y) = false := by simp
        go_wp2
        go_quiet (fail)
        go_wp2
        go_roundw
        case rel => exact ⟨k + 1, by omega, by go_num, drewN_below HQB.out _, HQ2.out.below (drewN_below (Below.refl _ _) _), HQ3.out.below (drewN_below (Below.refl _ _) _)⟩
        case measure => simp [intOf]; omega
      · obtain rfl : k = ys.length := by omega
        go_wp2_with (go_at_call 11; refine (works_in w _ HQB.out).mono ?_; rintro e w4 ⟨rfl, hb4⟩)
        go_ret
        exact ⟨rfl, hb4⟩

set_option maxRecDepth 100000 in
set_option maxHeartbeats 4000000 in
theorem ready_none (sw : Bool) (w : World) :
    Calls Try.prog 3 #[.slice none 0 0, .bool sw] w fun e w' => e = .returned (.bool true) ∧ Below w.heap.size w w' := by
  obtain ⟨i0, hi, hz0, hz1, hz2⟩ := info_parts info3
  have HB1 := Lib.hid (Below.refl w.heap.size w)
  have HR1 : Hid (Reads w.heap.size w none []) := .inl rfl
  go_enter Try.func3, Try.ntmps3
  go_wp2_with (at_builtin; refine wpList_append_own_none rfl _ _ 22 rfl w.heap.size 3 i0 1 Try.underlying22 hi _ 0 [] rfl (World.ownsRow_nil _ _ _ _) rfl ?_)
  go_wp2_with fail
  refine (ready_any none 0 [] sw (by simp) w HR1.out).mono ?_
  rintro e w2 ⟨v2, rfl, ⟨a2, cap2, rfl, hr2⟩, hb2⟩
  have HR2 := Lib.hid hr2
  have HB2 := Lib.hid (HB1.out.trans (hb2.mono HB1.out.size))
  have HR1' := Lib.hid (HR1.out.below hb2)
  have HS2 := Lib.hid hb2.size
  clear hr2 hb2
  go_wp2_with fail
  refine (rready_any none 0 [] sw (by simp) w2 w.heap.size HS2.out HR1'.out).mono ?_
  rintro e w3 ⟨v3, rfl, ⟨a3, cap3, rfl, hr3⟩, hb3⟩
  have HR3 := Lib.hid hr3
  have HB3 := Lib.hid (HB2.out.trans (hb3.mono HB2.out.size))
  have HR2' := Lib.hid ((HR2.out.below hb3).mono hb3.size)
  clear hr3 hb3
  have hyl : (rd [] sw).length ≤ 1001 := by
    cases sw <;> simp [rd, rdTo]
  generalize rd [] sw = ys at *
  go_wp2
  go_loopw [8] (fun i wr => ∃ k : Nat, k ≤ ys.length ∧ i = .int .i64 k ∧ Below w.heap.size w wr ∧ Reads w3.heap.size wr a2 ys ∧ Reads w3.heap.size wr a3 ys) (fun i _ => ys.length - (intOf i).toNat)
  case atStart => exact ⟨0, Nat.zero_le _, rfl, HB3.out, HR2'.out, HR3.out⟩
  case round =>
    obtain ⟨k, hk, rfl, hBr, hq2, hq3⟩ := hrel
    have HQB := Lib.hid hBr
    have HQ2 := Lib.hid hq2
    have HQ3 := Lib.hid hq3
    clear hBr hq2 hq3
    by_cases hlt : k < ys.length
    · rcases HQ2.out with rfl | ⟨b2, o2, rfl, _, hc2⟩
      · simp at hlt
      rcases HQ3.out with rfl | ⟨b3, o3, rfl, _, hc3⟩
      · simp at hlt
      have g2 := hc2 k hlt
      have g3 := hc3 k hlt
      clear hc2 hc3
      generalize ys.getD k 0 = y at g2 g3
      have gy : (y != y) = false := by simp
      go_wp2
      go_quiet (fail)
      go_wp2
      go_roundw
      case rel => exact ⟨k + 1, by omega, by go_num, drewN_below HQB.out _, HQ2.out.below (drewN_below (Below.refl _ _) _), HQ3.out.below (drewN_below (Below.refl _ _) _)⟩
      case measure => simp [intOf]; omega
    · obtain rfl : k = ys.length := by omega
      go_wp2_with (go_at_call 11; refine (works_in w _ HQB.out).mono ?_; rintro e w4 ⟨rfl, hb4⟩)
      go_ret
      exact ⟨rfl, hb4⟩

theorem ready_walk (a : Option Addr) (len cap : Nat) (zs : List Int) (sw : Bool) (w : World) (h : IsRow .i64 w a len cap zs) :
    Calls Try.prog 3 #[.slice a len cap, .bool sw] w fun e w' => e = .returned (.bool true) ∧ Below w.heap.size w w' := by
  have hcm := cap_le h
  obtain ⟨hl, hr, _, hlc⟩ := row_reads h (min len 1000) (by omega)
  cases a with
  | none =>
    rcases h with ⟨_, rfl, rfl, _⟩ | ⟨x, hx, _⟩
    · exact ready_none sw w
    · cases hx
  | some ad => exact ready_some ad len cap (zs.take (min len 1000)) sw w hcm _ rfl hl hr hlc
end Go.Proofs.Ytcgjijcjgchhiaa
