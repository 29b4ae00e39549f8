/- The walk of IsaKnown: the examples, each name's operation (its lines printed by a small program). -/
import Derived.Test.YtoaneiidomdljaaDoorFields
namespace Go.Proofs.YtoaneiidomdljaaDoor
open Go.RowKit Go.Shelf

theorem name_u (w0 u : World) (hb : Below w0.heap.size w0 u) (ht : Tab w0) (op : Int) (x : ByteArray) (hx : nm op = x) :
    Calls Tryd.prog 16 #[.int .i64 op] u fun e z => e = .returned (.string x) ∧ Below w0.heap.size w0 z := by
  subst hx
  exact name_in w0 u hb ht op
theorem op_u (w0 u : World) (hb : Below w0.heap.size w0 u) (ht : Tab w0) (x : ByteArray) (v : Int) (hx : opOf x = v) :
    Calls Tryd.prog 19 #[.string x] u fun e z => e = .returned (.int .i64 v) ∧ Below w0.heap.size w0 z := by
  subst hx
  exact op_in w0 u hb ht x
theorem form_v (w0 u : World) (hb : Below w0.heap.size w0 u) (ht : Tab w0) (op : Int) (x : ByteArray) (hx : fm op = x) :
    Calls Tryd.prog 15 #[.int .i64 op] u fun e z => e = .returned (.string x) ∧ Below w0.heap.size w0 z := by
  subst hx
  exact form_in w0 u hb ht op

/-- each operation's name is its own -/
theorem op_nm : ∀ k : Nat, k < 53 → opOf (nm ((k : Int) + 1)) = (k : Int) + 1 := by decide +kernel

/-- a block of the call's own, and what it holds -/
def HasBlk (u : World) (B : Nat) (cs : Array Value) (T : TypeId) : Prop := u.heap[B]? = some (.cells cs T (0, 0))
theorem HasBlk.keep {u z : World} {B : Nat} {cs : Array Value} {T : TypeId} (h : HasBlk u B cs T) (hb : Below u.heap.size u z) : HasBlk z B cs T := by
  unfold HasBlk
  rw [hb.block _ (lt_of_block h)]; exact h

def c4 : Array Value := #[.int .i64 3, .int .i64 1, .int .i64 2, .int .i64 3, .int .i64 0, .int .i64 29, .int .i64 1, .int .i64 0, .int .i64 0, .int .i64 (-2), .int .i64 52, .int .i64 0, .int .i64 0, .int .i64 0, .int .i64 4, .int .i64 53, .int .i64 0, .int .i64 0, .int .i64 0, .int .i64 0]
def c17 : Array Value := #[.int .i64 0, .int .i64 0, .int .i64 0, .int .i64 0, .int .i64 0, .int .i64 (-1), .int .i64 0, .int .i64 0, .int .i64 0, .int .i64 0, .int .i64 54, .int .i64 0, .int .i64 0, .int .i64 0, .int .i64 0, .int .i64 1, .int .i64 16, .int .i64 0, .int .i64 0, .int .i64 0, .int .i64 1, .int .i64 (-1), .int .i64 0, .int .i64 0, .int .i64 0, .int .i64 1, .int .i64 0, .int .i64 0, .int .i64 0, .int .i64 2048, .int .i64 1, .int .i64 0, .int .i64 0, .int .i64 0, .int .i64 (-2049), .int .i64 1, .int .i64 0, .int .i64 1, .int .i64 0, .int .i64 0, .int .i64 3, .int .i64 0, .int .i64 0, .int .i64 0, .int .i64 1, .int .i64 3, .int .i64 0, .int .i64 0, .int .i64 16, .int .i64 0, .int .i64 29, .int .i64 0, .int .i64 0, .int .i64 0, .int .i64 524288, .int .i64 29, .int .i64 0, .int .i64 0, .int .i64 0, .int .i64 (-524289), .int .i64 29, .int .i64 0, .int .i64 1, .int .i64 0, .int .i64 0, .int .i64 31, .int .i64 0, .int .i64 0, .int .i64 1, .int .i64 0, .int .i64 51, .int .i64 1, .int .i64 0, .int .i64 0, .int .i64 0, .int .i64 53, .int .i64 0, .int .i64 0, .int .i64 0, .int .i64 1, .int .i64 52, .int .i64 1, .int .i64 0, .int .i64 0, .int .i64 0]
def c7 : Array Value := #[.int .u32 0, .int .u32 19988480, .int .u32 19927040, .int .u32 4294967295, .int .u32 51523585, .int .u32 905969664, .int .u32 855638017]
theorem HasBlk.at {u : World} {B : Nat} {cs : Array Value} {T : TypeId} (h : HasBlk u B cs T) (j : Nat) : u.cell? ⟨B, j, none⟩ = cs[j]? := cell_of_row u B j cs T (0, 0) h

set_option maxRecDepth 100000 in
set_option maxHeartbeats 4000000 in
theorem known_walk (w : World) (ht : Tab w) : Calls Tryd.prog 9 #[] w fun e w' => e = .returned (.bool true) ∧ Below w.heap.size w w' := by
  have b1 := Below.refl w.heap.size w
  go_enter Tryd.func9, Tryd.ntmps9
  go_wp2_with fail
  go_loopw [1] (fun t wr => ∃ k : Nat, k ≤ 53 ∧ t = .int .i64 ((k : Int) + 1) ∧ Below w.heap.size w wr) (fun t _ => 54 - (intOf t).toNat)
  case atStart => exact ⟨0, Nat.zero_le _, rfl, b1⟩
  case round =>
    obtain ⟨k, hk, rfl, hb⟩ := hrel
    have HB := Lib.hid hb
    clear hb
    by_cases hlt : k < 53
    · have HN := Lib.hid (op_nm k hlt)
      have hx1 : (nm ((k : Int) + 1)).toList.isEmpty = false := nm_ne (by omega) (by omega)
      obtain ⟨x, hx⟩ : ∃ x, nm ((k : Int) + 1) = x := ⟨_, rfl⟩
      rw [hx] at hx1
      have HX := Lib.hid hx
      clear hx
      go_wp2_with fail
      refine (name_u w _ HB.out ht _ x HX.out).mono ?_
      rintro e u1 ⟨rfl, h1⟩
      go_wp2_with fail
      refine (name_u w _ h1 ht _ x HX.out).mono ?_
      rintro e u2 ⟨rfl, h2⟩
      go_wp2_with fail
      refine (op_u w _ h2 ht x ((k : Int) + 1) (by rw [← HX.out]; exact HN.out)).mono ?_
      rintro e u3 ⟨rfl, h3⟩
      go_wp2_with fail
      go_roundw
      case rel => exact ⟨k + 1, by omega, by go_num, h3⟩
      case measure => simp [intOf]; omega
    · have hge : 53 ≤ k := by omega
      clear hlt
      rename World => wa
      go_wp2_with fail
      have h1 : HasBlk (wa.alloc (.cells c4 23)) wa.heap.size c4 23 := heap_alloc_new _ _
      have hb1 := HB.out.alloc HB.out.size (.cells c4 23)
      clear HB
      go_loopw [3] (fun t v' => ∃ k : Nat, k ≤ 4 ∧ t = .int .i64 (k : Int) ∧ Below w.heap.size w v' ∧ HasBlk v' wa.heap.size c4 23) (fun t _ => 4 - (intOf t).toNat)
      case atStart => exact ⟨0, Nat.zero_le _, rfl, hb1, h1⟩
      case round =>
        obtain ⟨k, hk, rfl, hb, hc⟩ := hrel
        have HB := Lib.hid hb
        have HC := Lib.hid hc
        clear hb hc h1 hb1
        rename World => v
        rcases (by omega : k = 0 ∨ k = 1 ∨ k = 2 ∨ k = 3 ∨ 4 ≤ k) with rfl | rfl | rfl | rfl | hge4
        · have k0 : v.cell? ⟨wa.heap.size, 0, none⟩ = some (.int .i64 3) := (HC.out.at 0).trans rfl
          have k1 : v.cell? ⟨wa.heap.size, 1, none⟩ = some (.int .i64 1) := (HC.out.at 1).trans rfl
          have k2 : v.cell? ⟨wa.heap.size, 2, none⟩ = some (.int .i64 2) := (HC.out.at 2).trans rfl
          have k3 : v.cell? ⟨wa.heap.size, 3, none⟩ = some (.int .i64 3) := (HC.out.at 3).trans rfl
          have k4 : v.cell? ⟨wa.heap.size, 4, none⟩ = some (.int .i64 0) := (HC.out.at 4).trans rfl
          go_wp2_with fail
          refine (enc_u w _ HB.out ht 3 1 2 3 0 51523584 0 (by decide +kernel) (by decide +kernel)).mono ?_
          rintro e u ⟨rfl, hu⟩
          have hb2 := HB.out.trans (hu.mono HB.out.size)
          have HC2 := Lib.hid (HC.out.keep hu)
          clear hu k0 k1 k2 k3 k4
          go_wp2_with fail
          go_roundw
          case rel => exact ⟨0 + 1, by omega, by go_num, hb2.alloc hb2.size _, HC2.out.keep ((Below.refl _ _).alloc (Nat.le_refl _) _)⟩
          case measure => simp [intOf]
        · have k0 : v.cell? ⟨wa.heap.size, 5, none⟩ = some (.int .i64 29) := (HC.out.at 5).trans rfl
          have k1 : v.cell? ⟨wa.heap.size, 6, none⟩ = some (.int .i64 1) := (HC.out.at 6).trans rfl
          have k2 : v.cell? ⟨wa.heap.size, 7, none⟩ = some (.int .i64 0) := (HC.out.at 7).trans rfl
          have k3 : v.cell? ⟨wa.heap.size, 8, none⟩ = some (.int .i64 0) := (HC.out.at 8).trans rfl
          have k4 : v.cell? ⟨wa.heap.size, 9, none⟩ = some (.int .i64 (-2)) := (HC.out.at 9).trans rfl
          go_wp2_with fail
          refine (enc_u w _ HB.out ht 29 1 0 0 (-2) 488636414 0 (by decide +kernel) (by decide +kernel)).mono ?_
          rintro e u ⟨rfl, hu⟩
          have hb2 := HB.out.trans (hu.mono HB.out.size)
          have HC2 := Lib.hid (HC.out.keep hu)
          clear hu k0 k1 k2 k3 k4
          go_wp2_with fail
          go_roundw
          case rel => exact ⟨1 + 1, by omega, by go_num, hb2.alloc hb2.size _, HC2.out.keep ((Below.refl _ _).alloc (Nat.le_refl _) _)⟩
          case measure => simp [intOf]
        · have k0 : v.cell? ⟨wa.heap.size, 10, none⟩ = some (.int .i64 52) := (HC.out.at 10).trans rfl
          have k1 : v.cell? ⟨wa.heap.size, 11, none⟩ = some (.int .i64 0) := (HC.out.at 11).trans rfl
          have k2 : v.cell? ⟨wa.heap.size, 12, none⟩ = some (.int .i64 0) := (HC.out.at 12).trans rfl
          have k3 : v.cell? ⟨wa.heap.size, 13, none⟩ = some (.int .i64 0) := (HC.out.at 13).trans rfl
          have k4 : v.cell? ⟨wa.heap.size, 14, none⟩ = some (.int .i64 4) := (HC.out.at 14).trans rfl
          go_wp2_with fail
          refine (enc_u w _ HB.out ht 52 0 0 0 4 872415236 0 (by decide +kernel) (by decide +kernel)).mono ?_
          rintro e u ⟨rfl, hu⟩
          have hb2 := HB.out.trans (hu.mono HB.out.size)
          have HC2 := Lib.hid (HC.out.keep hu)
          clear hu k0 k1 k2 k3 k4
          go_wp2_with fail
          go_roundw
          case rel => exact ⟨2 + 1, by omega, by go_num, hb2.alloc hb2.size _, HC2.out.keep ((Below.refl _ _).alloc (Nat.le_refl _) _)⟩
          case measure => simp [intOf]
        · have k0 : v.cell? ⟨wa.heap.size, 15, none⟩ = some (.int .i64 53) := (HC.out.at 15).trans rfl
          have k1 : v.cell? ⟨wa.heap.size, 16, none⟩ = some (.int .i64 0) := (HC.out.at 16).trans rfl
          have k2 : v.cell? ⟨wa.heap.size, 17, none⟩ = some (.int .i64 0) := (HC.out.at 17).trans rfl
          have k3 : v.cell? ⟨wa.heap.size, 18, none⟩ = some (.int .i64 0) := (HC.out.at 18).trans rfl
          have k4 : v.cell? ⟨wa.heap.size, 19, none⟩ = some (.int .i64 0) := (HC.out.at 19).trans rfl
          go_wp2_with fail
          refine (enc_u w _ HB.out ht 53 0 0 0 0 889192448 0 (by decide +kernel) (by decide +kernel)).mono ?_
          rintro e u ⟨rfl, hu⟩
          have hb2 := HB.out.trans (hu.mono HB.out.size)
          have HC2 := Lib.hid (HC.out.keep hu)
          clear hu k0 k1 k2 k3 k4
          go_wp2_with fail
          go_roundw
          case rel => exact ⟨3 + 1, by omega, by go_num, hb2.alloc hb2.size _, HC2.out.keep ((Below.refl _ _).alloc (Nat.le_refl _) _)⟩
          case measure => simp [intOf]
        · have hz := HB.out
          clear HC
          go_wp2_with fail
          have h1 : HasBlk (v.alloc (.cells c17 23)) v.heap.size c17 23 := heap_alloc_new _ _
          have hb1 := HB.out.alloc HB.out.size (.cells c17 23)
          clear HB hz
          go_loopw [7] (fun t z => ∃ k : Nat, k ≤ 17 ∧ t = .int .i64 (k : Int) ∧ Below w.heap.size w z ∧ HasBlk z v.heap.size c17 23) (fun t _ => 17 - (intOf t).toNat)
          case atStart => exact ⟨0, Nat.zero_le _, rfl, hb1, h1⟩
          case round =>
            obtain ⟨k, hk, rfl, hb, hc⟩ := hrel
            have HB := Lib.hid hb
            have HC := Lib.hid hc
            clear hb hc h1 hb1
            rename World => z
            rcases (by omega : k = 0 ∨ k = 1 ∨ k = 2 ∨ k = 3 ∨ k = 4 ∨ k = 5 ∨ k = 6 ∨ k = 7 ∨ k = 8 ∨ k = 9 ∨ k = 10 ∨ k = 11 ∨ k = 12 ∨ k = 13 ∨ k = 14 ∨ k = 15 ∨ k = 16 ∨ 17 ≤ k) with rfl | rfl | rfl | rfl | rfl | rfl | rfl | rfl | rfl | rfl | rfl | rfl | rfl | rfl | rfl | rfl | rfl | hge17
            · have k0 : z.cell? ⟨v.heap.size, 0, none⟩ = some (.int .i64 0) := (HC.out.at 0).trans rfl
              have k1 : z.cell? ⟨v.heap.size, 1, none⟩ = some (.int .i64 0) := (HC.out.at 1).trans rfl
              have k2 : z.cell? ⟨v.heap.size, 2, none⟩ = some (.int .i64 0) := (HC.out.at 2).trans rfl
              have k3 : z.cell? ⟨v.heap.size, 3, none⟩ = some (.int .i64 0) := (HC.out.at 3).trans rfl
              have k4 : z.cell? ⟨v.heap.size, 4, none⟩ = some (.int .i64 0) := (HC.out.at 4).trans rfl
              go_wp2_with fail
              refine (enc_u w _ HB.out ht 0 0 0 0 0 0 2 (by decide +kernel) (by decide +kernel)).mono ?_
              rintro e u ⟨rfl, hu⟩
              have hb2 := HB.out.trans (hu.mono HB.out.size)
              have HC2 := Lib.hid (HC.out.keep hu)
              clear hu k0 k1 k2 k3 k4
              go_wp2_with fail
              go_roundw
              case rel => exact ⟨0 + 1, by omega, by go_num, hb2, HC2.out⟩
              case measure => simp [intOf]
            · have k0 : z.cell? ⟨v.heap.size, 5, none⟩ = some (.int .i64 (-1)) := (HC.out.at 5).trans rfl
              have k1 : z.cell? ⟨v.heap.size, 6, none⟩ = some (.int .i64 0) := (HC.out.at 6).trans rfl
              have k2 : z.cell? ⟨v.heap.size, 7, none⟩ = some (.int .i64 0) := (HC.out.at 7).trans rfl
              have k3 : z.cell? ⟨v.heap.size, 8, none⟩ = some (.int .i64 0) := (HC.out.at 8).trans rfl
              have k4 : z.cell? ⟨v.heap.size, 9, none⟩ = some (.int .i64 0) := (HC.out.at 9).trans rfl
              go_wp2_with fail
              refine (enc_u w _ HB.out ht (-1) 0 0 0 0 0 2 (by decide +kernel) (by decide +kernel)).mono ?_
              rintro e u ⟨rfl, hu⟩
              have hb2 := HB.out.trans (hu.mono HB.out.size)
              have HC2 := Lib.hid (HC.out.keep hu)
              clear hu k0 k1 k2 k3 k4
              go_wp2_with fail
              go_roundw
              case rel => exact ⟨1 + 1, by omega, by go_num, hb2, HC2.out⟩
              case measure => simp [intOf]
            · have k0 : z.cell? ⟨v.heap.size, 10, none⟩ = some (.int .i64 54) := (HC.out.at 10).trans rfl
              have k1 : z.cell? ⟨v.heap.size, 11, none⟩ = some (.int .i64 0) := (HC.out.at 11).trans rfl
              have k2 : z.cell? ⟨v.heap.size, 12, none⟩ = some (.int .i64 0) := (HC.out.at 12).trans rfl
              have k3 : z.cell? ⟨v.heap.size, 13, none⟩ = some (.int .i64 0) := (HC.out.at 13).trans rfl
              have k4 : z.cell? ⟨v.heap.size, 14, none⟩ = some (.int .i64 0) := (HC.out.at 14).trans rfl
              go_wp2_with fail
              refine (enc_u w _ HB.out ht 54 0 0 0 0 0 2 (by decide +kernel) (by decide +kernel)).mono ?_
              rintro e u ⟨rfl, hu⟩
              have hb2 := HB.out.trans (hu.mono HB.out.size)
              have HC2 := Lib.hid (HC.out.keep hu)
              clear hu k0 k1 k2 k3 k4
              go_wp2_with fail
              go_roundw
              case rel => exact ⟨2 + 1, by omega, by go_num, hb2, HC2.out⟩
              case measure => simp [intOf]
            · have k0 : z.cell? ⟨v.heap.size, 15, none⟩ = some (.int .i64 1) := (HC.out.at 15).trans rfl
              have k1 : z.cell? ⟨v.heap.size, 16, none⟩ = some (.int .i64 16) := (HC.out.at 16).trans rfl
              have k2 : z.cell? ⟨v.heap.size, 17, none⟩ = some (.int .i64 0) := (HC.out.at 17).trans rfl
              have k3 : z.cell? ⟨v.heap.size, 18, none⟩ = some (.int .i64 0) := (HC.out.at 18).trans rfl
              have k4 : z.cell? ⟨v.heap.size, 19, none⟩ = some (.int .i64 0) := (HC.out.at 19).trans rfl
              go_wp2_with fail
              refine (enc_u w _ HB.out ht 1 16 0 0 0 0 2 (by decide +kernel) (by decide +kernel)).mono ?_
              rintro e u ⟨rfl, hu⟩
              have hb2 := HB.out.trans (hu.mono HB.out.size)
              have HC2 := Lib.hid (HC.out.keep hu)
              clear hu k0 k1 k2 k3 k4
              go_wp2_with fail
              go_roundw
              case rel => exact ⟨3 + 1, by omega, by go_num, hb2, HC2.out⟩
              case measure => simp [intOf]
            · have k0 : z.cell? ⟨v.heap.size, 20, none⟩ = some (.int .i64 1) := (HC.out.at 20).trans rfl
              have k1 : z.cell? ⟨v.heap.size, 21, none⟩ = some (.int .i64 (-1)) := (HC.out.at 21).trans rfl
              have k2 : z.cell? ⟨v.heap.size, 22, none⟩ = some (.int .i64 0) := (HC.out.at 22).trans rfl
              have k3 : z.cell? ⟨v.heap.size, 23, none⟩ = some (.int .i64 0) := (HC.out.at 23).trans rfl
              have k4 : z.cell? ⟨v.heap.size, 24, none⟩ = some (.int .i64 0) := (HC.out.at 24).trans rfl
              go_wp2_with fail
              refine (enc_u w _ HB.out ht 1 (-1) 0 0 0 0 2 (by decide +kernel) (by decide +kernel)).mono ?_
              rintro e u ⟨rfl, hu⟩
              have hb2 := HB.out.trans (hu.mono HB.out.size)
              have HC2 := Lib.hid (HC.out.keep hu)
              clear hu k0 k1 k2 k3 k4
              go_wp2_with fail
              go_roundw
              case rel => exact ⟨4 + 1, by omega, by go_num, hb2, HC2.out⟩
              case measure => simp [intOf]
            · have k0 : z.cell? ⟨v.heap.size, 25, none⟩ = some (.int .i64 1) := (HC.out.at 25).trans rfl
              have k1 : z.cell? ⟨v.heap.size, 26, none⟩ = some (.int .i64 0) := (HC.out.at 26).trans rfl
              have k2 : z.cell? ⟨v.heap.size, 27, none⟩ = some (.int .i64 0) := (HC.out.at 27).trans rfl
              have k3 : z.cell? ⟨v.heap.size, 28, none⟩ = some (.int .i64 0) := (HC.out.at 28).trans rfl
              have k4 : z.cell? ⟨v.heap.size, 29, none⟩ = some (.int .i64 2048) := (HC.out.at 29).trans rfl
              go_wp2_with fail
              refine (enc_u w _ HB.out ht 1 0 0 0 2048 0 2 (by decide +kernel) (by decide +kernel)).mono ?_
              rintro e u ⟨rfl, hu⟩
              have hb2 := HB.out.trans (hu.mono HB.out.size)
              have HC2 := Lib.hid (HC.out.keep hu)
              clear hu k0 k1 k2 k3 k4
              go_wp2_with fail
              go_roundw
              case rel => exact ⟨5 + 1, by omega, by go_num, hb2, HC2.out⟩
              case measure => simp [intOf]
            · have k0 : z.cell? ⟨v.heap.size, 30, none⟩ = some (.int .i64 1) := (HC.out.at 30).trans rfl
              have k1 : z.cell? ⟨v.heap.size, 31, none⟩ = some (.int .i64 0) := (HC.out.at 31).trans rfl
              have k2 : z.cell? ⟨v.heap.size, 32, none⟩ = some (.int .i64 0) := (HC.out.at 32).trans rfl
              have k3 : z.cell? ⟨v.heap.size, 33, none⟩ = some (.int .i64 0) := (HC.out.at 33).trans rfl
              have k4 : z.cell? ⟨v.heap.size, 34, none⟩ = some (.int .i64 (-2049)) := (HC.out.at 34).trans rfl
              go_wp2_with fail
              refine (enc_u w _ HB.out ht 1 0 0 0 (-2049) 0 2 (by decide +kernel) (by decide +kernel)).mono ?_
              rintro e u ⟨rfl, hu⟩
              have hb2 := HB.out.trans (hu.mono HB.out.size)
              have HC2 := Lib.hid (HC.out.keep hu)
              clear hu k0 k1 k2 k3 k4
              go_wp2_with fail
              go_roundw
              case rel => exact ⟨6 + 1, by omega, by go_num, hb2, HC2.out⟩
              case measure => simp [intOf]
            · have k0 : z.cell? ⟨v.heap.size, 35, none⟩ = some (.int .i64 1) := (HC.out.at 35).trans rfl
              have k1 : z.cell? ⟨v.heap.size, 36, none⟩ = some (.int .i64 0) := (HC.out.at 36).trans rfl
              have k2 : z.cell? ⟨v.heap.size, 37, none⟩ = some (.int .i64 1) := (HC.out.at 37).trans rfl
              have k3 : z.cell? ⟨v.heap.size, 38, none⟩ = some (.int .i64 0) := (HC.out.at 38).trans rfl
              have k4 : z.cell? ⟨v.heap.size, 39, none⟩ = some (.int .i64 0) := (HC.out.at 39).trans rfl
              go_wp2_with fail
              refine (enc_u w _ HB.out ht 1 0 1 0 0 0 2 (by decide +kernel) (by decide +kernel)).mono ?_
              rintro e u ⟨rfl, hu⟩
              have hb2 := HB.out.trans (hu.mono HB.out.size)
              have HC2 := Lib.hid (HC.out.keep hu)
              clear hu k0 k1 k2 k3 k4
              go_wp2_with fail
              go_roundw
              case rel => exact ⟨7 + 1, by omega, by go_num, hb2, HC2.out⟩
              case measure => simp [intOf]
            · have k0 : z.cell? ⟨v.heap.size, 40, none⟩ = some (.int .i64 3) := (HC.out.at 40).trans rfl
              have k1 : z.cell? ⟨v.heap.size, 41, none⟩ = some (.int .i64 0) := (HC.out.at 41).trans rfl
              have k2 : z.cell? ⟨v.heap.size, 42, none⟩ = some (.int .i64 0) := (HC.out.at 42).trans rfl
              have k3 : z.cell? ⟨v.heap.size, 43, none⟩ = some (.int .i64 0) := (HC.out.at 43).trans rfl
              have k4 : z.cell? ⟨v.heap.size, 44, none⟩ = some (.int .i64 1) := (HC.out.at 44).trans rfl
              go_wp2_with fail
              refine (enc_u w _ HB.out ht 3 0 0 0 1 0 2 (by decide +kernel) (by decide +kernel)).mono ?_
              rintro e u ⟨rfl, hu⟩
              have hb2 := HB.out.trans (hu.mono HB.out.size)
              have HC2 := Lib.hid (HC.out.keep hu)
              clear hu k0 k1 k2 k3 k4
              go_wp2_with fail
              go_roundw
              case rel => exact ⟨8 + 1, by omega, by go_num, hb2, HC2.out⟩
              case measure => simp [intOf]
            · have k0 : z.cell? ⟨v.heap.size, 45, none⟩ = some (.int .i64 3) := (HC.out.at 45).trans rfl
              have k1 : z.cell? ⟨v.heap.size, 46, none⟩ = some (.int .i64 0) := (HC.out.at 46).trans rfl
              have k2 : z.cell? ⟨v.heap.size, 47, none⟩ = some (.int .i64 0) := (HC.out.at 47).trans rfl
              have k3 : z.cell? ⟨v.heap.size, 48, none⟩ = some (.int .i64 16) := (HC.out.at 48).trans rfl
              have k4 : z.cell? ⟨v.heap.size, 49, none⟩ = some (.int .i64 0) := (HC.out.at 49).trans rfl
              go_wp2_with fail
              refine (enc_u w _ HB.out ht 3 0 0 16 0 0 2 (by decide +kernel) (by decide +kernel)).mono ?_
              rintro e u ⟨rfl, hu⟩
              have hb2 := HB.out.trans (hu.mono HB.out.size)
              have HC2 := Lib.hid (HC.out.keep hu)
              clear hu k0 k1 k2 k3 k4
              go_wp2_with fail
              go_roundw
              case rel => exact ⟨9 + 1, by omega, by go_num, hb2, HC2.out⟩
              case measure => simp [intOf]
            · have k0 : z.cell? ⟨v.heap.size, 50, none⟩ = some (.int .i64 29) := (HC.out.at 50).trans rfl
              have k1 : z.cell? ⟨v.heap.size, 51, none⟩ = some (.int .i64 0) := (HC.out.at 51).trans rfl
              have k2 : z.cell? ⟨v.heap.size, 52, none⟩ = some (.int .i64 0) := (HC.out.at 52).trans rfl
              have k3 : z.cell? ⟨v.heap.size, 53, none⟩ = some (.int .i64 0) := (HC.out.at 53).trans rfl
              have k4 : z.cell? ⟨v.heap.size, 54, none⟩ = some (.int .i64 524288) := (HC.out.at 54).trans rfl
              go_wp2_with fail
              refine (enc_u w _ HB.out ht 29 0 0 0 524288 0 2 (by decide +kernel) (by decide +kernel)).mono ?_
              rintro e u ⟨rfl, hu⟩
              have hb2 := HB.out.trans (hu.mono HB.out.size)
              have HC2 := Lib.hid (HC.out.keep hu)
              clear hu k0 k1 k2 k3 k4
              go_wp2_with fail
              go_roundw
              case rel => exact ⟨10 + 1, by omega, by go_num, hb2, HC2.out⟩
              case measure => simp [intOf]
            · have k0 : z.cell? ⟨v.heap.size, 55, none⟩ = some (.int .i64 29) := (HC.out.at 55).trans rfl
              have k1 : z.cell? ⟨v.heap.size, 56, none⟩ = some (.int .i64 0) := (HC.out.at 56).trans rfl
              have k2 : z.cell? ⟨v.heap.size, 57, none⟩ = some (.int .i64 0) := (HC.out.at 57).trans rfl
              have k3 : z.cell? ⟨v.heap.size, 58, none⟩ = some (.int .i64 0) := (HC.out.at 58).trans rfl
              have k4 : z.cell? ⟨v.heap.size, 59, none⟩ = some (.int .i64 (-524289)) := (HC.out.at 59).trans rfl
              go_wp2_with fail
              refine (enc_u w _ HB.out ht 29 0 0 0 (-524289) 0 2 (by decide +kernel) (by decide +kernel)).mono ?_
              rintro e u ⟨rfl, hu⟩
              have hb2 := HB.out.trans (hu.mono HB.out.size)
              have HC2 := Lib.hid (HC.out.keep hu)
              clear hu k0 k1 k2 k3 k4
              go_wp2_with fail
              go_roundw
              case rel => exact ⟨11 + 1, by omega, by go_num, hb2, HC2.out⟩
              case measure => simp [intOf]
            · have k0 : z.cell? ⟨v.heap.size, 60, none⟩ = some (.int .i64 29) := (HC.out.at 60).trans rfl
              have k1 : z.cell? ⟨v.heap.size, 61, none⟩ = some (.int .i64 0) := (HC.out.at 61).trans rfl
              have k2 : z.cell? ⟨v.heap.size, 62, none⟩ = some (.int .i64 1) := (HC.out.at 62).trans rfl
              have k3 : z.cell? ⟨v.heap.size, 63, none⟩ = some (.int .i64 0) := (HC.out.at 63).trans rfl
              have k4 : z.cell? ⟨v.heap.size, 64, none⟩ = some (.int .i64 0) := (HC.out.at 64).trans rfl
              go_wp2_with fail
              refine (enc_u w _ HB.out ht 29 0 1 0 0 0 2 (by decide +kernel) (by decide +kernel)).mono ?_
              rintro e u ⟨rfl, hu⟩
              have hb2 := HB.out.trans (hu.mono HB.out.size)
              have HC2 := Lib.hid (HC.out.keep hu)
              clear hu k0 k1 k2 k3 k4
              go_wp2_with fail
              go_roundw
              case rel => exact ⟨12 + 1, by omega, by go_num, hb2, HC2.out⟩
              case measure => simp [intOf]
            · have k0 : z.cell? ⟨v.heap.size, 65, none⟩ = some (.int .i64 31) := (HC.out.at 65).trans rfl
              have k1 : z.cell? ⟨v.heap.size, 66, none⟩ = some (.int .i64 0) := (HC.out.at 66).trans rfl
              have k2 : z.cell? ⟨v.heap.size, 67, none⟩ = some (.int .i64 0) := (HC.out.at 67).trans rfl
              have k3 : z.cell? ⟨v.heap.size, 68, none⟩ = some (.int .i64 1) := (HC.out.at 68).trans rfl
              have k4 : z.cell? ⟨v.heap.size, 69, none⟩ = some (.int .i64 0) := (HC.out.at 69).trans rfl
              go_wp2_with fail
              refine (enc_u w _ HB.out ht 31 0 0 1 0 0 2 (by decide +kernel) (by decide +kernel)).mono ?_
              rintro e u ⟨rfl, hu⟩
              have hb2 := HB.out.trans (hu.mono HB.out.size)
              have HC2 := Lib.hid (HC.out.keep hu)
              clear hu k0 k1 k2 k3 k4
              go_wp2_with fail
              go_roundw
              case rel => exact ⟨13 + 1, by omega, by go_num, hb2, HC2.out⟩
              case measure => simp [intOf]
            · have k0 : z.cell? ⟨v.heap.size, 70, none⟩ = some (.int .i64 51) := (HC.out.at 70).trans rfl
              have k1 : z.cell? ⟨v.heap.size, 71, none⟩ = some (.int .i64 1) := (HC.out.at 71).trans rfl
              have k2 : z.cell? ⟨v.heap.size, 72, none⟩ = some (.int .i64 0) := (HC.out.at 72).trans rfl
              have k3 : z.cell? ⟨v.heap.size, 73, none⟩ = some (.int .i64 0) := (HC.out.at 73).trans rfl
              have k4 : z.cell? ⟨v.heap.size, 74, none⟩ = some (.int .i64 0) := (HC.out.at 74).trans rfl
              go_wp2_with fail
              refine (enc_u w _ HB.out ht 51 1 0 0 0 0 2 (by decide +kernel) (by decide +kernel)).mono ?_
              rintro e u ⟨rfl, hu⟩
              have hb2 := HB.out.trans (hu.mono HB.out.size)
              have HC2 := Lib.hid (HC.out.keep hu)
              clear hu k0 k1 k2 k3 k4
              go_wp2_with fail
              go_roundw
              case rel => exact ⟨14 + 1, by omega, by go_num, hb2, HC2.out⟩
              case measure => simp [intOf]
            · have k0 : z.cell? ⟨v.heap.size, 75, none⟩ = some (.int .i64 53) := (HC.out.at 75).trans rfl
              have k1 : z.cell? ⟨v.heap.size, 76, none⟩ = some (.int .i64 0) := (HC.out.at 76).trans rfl
              have k2 : z.cell? ⟨v.heap.size, 77, none⟩ = some (.int .i64 0) := (HC.out.at 77).trans rfl
              have k3 : z.cell? ⟨v.heap.size, 78, none⟩ = some (.int .i64 0) := (HC.out.at 78).trans rfl
              have k4 : z.cell? ⟨v.heap.size, 79, none⟩ = some (.int .i64 1) := (HC.out.at 79).trans rfl
              go_wp2_with fail
              refine (enc_u w _ HB.out ht 53 0 0 0 1 0 2 (by decide +kernel) (by decide +kernel)).mono ?_
              rintro e u ⟨rfl, hu⟩
              have hb2 := HB.out.trans (hu.mono HB.out.size)
              have HC2 := Lib.hid (HC.out.keep hu)
              clear hu k0 k1 k2 k3 k4
              go_wp2_with fail
              go_roundw
              case rel => exact ⟨15 + 1, by omega, by go_num, hb2, HC2.out⟩
              case measure => simp [intOf]
            · have k0 : z.cell? ⟨v.heap.size, 80, none⟩ = some (.int .i64 52) := (HC.out.at 80).trans rfl
              have k1 : z.cell? ⟨v.heap.size, 81, none⟩ = some (.int .i64 1) := (HC.out.at 81).trans rfl
              have k2 : z.cell? ⟨v.heap.size, 82, none⟩ = some (.int .i64 0) := (HC.out.at 82).trans rfl
              have k3 : z.cell? ⟨v.heap.size, 83, none⟩ = some (.int .i64 0) := (HC.out.at 83).trans rfl
              have k4 : z.cell? ⟨v.heap.size, 84, none⟩ = some (.int .i64 0) := (HC.out.at 84).trans rfl
              go_wp2_with fail
              refine (enc_u w _ HB.out ht 52 1 0 0 0 0 2 (by decide +kernel) (by decide +kernel)).mono ?_
              rintro e u ⟨rfl, hu⟩
              have hb2 := HB.out.trans (hu.mono HB.out.size)
              have HC2 := Lib.hid (HC.out.keep hu)
              clear hu k0 k1 k2 k3 k4
              go_wp2_with fail
              go_roundw
              case rel => exact ⟨16 + 1, by omega, by go_num, hb2, HC2.out⟩
              case measure => simp [intOf]
            · clear HC
              go_wp2_with fail
              have h1 : HasBlk (z.alloc (.cells c7 24)) z.heap.size c7 24 := heap_alloc_new _ _
              have hb1 := HB.out.alloc HB.out.size (.cells c7 24)
              clear HB
              go_loopw [95] (fun t y => ∃ k : Nat, k ≤ 7 ∧ t = .int .i64 (k : Int) ∧ Below w.heap.size w y ∧ HasBlk y z.heap.size c7 24) (fun t _ => 7 - (intOf t).toNat)
              case atStart => exact ⟨0, Nat.zero_le _, rfl, hb1, h1⟩
              case round =>
                obtain ⟨k, hk, rfl, hb, hc⟩ := hrel
                have HB := Lib.hid hb
                have HC := Lib.hid hc
                clear hb hc h1 hb1
                rename World => y
                rcases (by omega : k = 0 ∨ k = 1 ∨ k = 2 ∨ k = 3 ∨ k = 4 ∨ k = 5 ∨ k = 6 ∨ 7 ≤ k) with rfl | rfl | rfl | rfl | rfl | rfl | rfl | hge7
                · have k0 : y.cell? ⟨z.heap.size, 0, none⟩ = some (.int .u32 0) := (HC.out.at 0).trans rfl
                  go_wp2_with fail
                  refine (dec_u w _ HB.out ht 0 0 0 0 0 0 (by omega) (by omega) (by decide +kernel)).mono ?_
                  rintro e u ⟨rfl, hu⟩
                  have hb2 := HB.out.trans (hu.mono HB.out.size)
                  have HC2 := Lib.hid (HC.out.keep hu)
                  clear hu k0
                  go_wp2_with fail
                  go_roundw
                  case rel => exact ⟨0 + 1, by omega, by go_num, hb2, HC2.out⟩
                  case measure => simp [intOf]
                · have k0 : y.cell? ⟨z.heap.size, 1, none⟩ = some (.int .u32 19988480) := (HC.out.at 1).trans rfl
                  go_wp2_with fail
                  refine (dec_u w _ HB.out ht 19988480 0 0 0 0 0 (by omega) (by omega) (by decide +kernel)).mono ?_
                  rintro e u ⟨rfl, hu⟩
                  have hb2 := HB.out.trans (hu.mono HB.out.size)
                  have HC2 := Lib.hid (HC.out.keep hu)
                  clear hu k0
                  go_wp2_with fail
                  go_roundw
                  case rel => exact ⟨1 + 1, by omega, by go_num, hb2, HC2.out⟩
                  case measure => simp [intOf]
                · have k0 : y.cell? ⟨z.heap.size, 2, none⟩ = some (.int .u32 19927040) := (HC.out.at 2).trans rfl
                  go_wp2_with fail
                  refine (dec_u w _ HB.out ht 19927040 0 0 0 0 0 (by omega) (by omega) (by decide +kernel)).mono ?_
                  rintro e u ⟨rfl, hu⟩
                  have hb2 := HB.out.trans (hu.mono HB.out.size)
                  have HC2 := Lib.hid (HC.out.keep hu)
                  clear hu k0
                  go_wp2_with fail
                  go_roundw
                  case rel => exact ⟨2 + 1, by omega, by go_num, hb2, HC2.out⟩
                  case measure => simp [intOf]
                · have k0 : y.cell? ⟨z.heap.size, 3, none⟩ = some (.int .u32 4294967295) := (HC.out.at 3).trans rfl
                  go_wp2_with fail
                  refine (dec_u w _ HB.out ht 4294967295 0 0 0 0 0 (by omega) (by omega) (by decide +kernel)).mono ?_
                  rintro e u ⟨rfl, hu⟩
                  have hb2 := HB.out.trans (hu.mono HB.out.size)
                  have HC2 := Lib.hid (HC.out.keep hu)
                  clear hu k0
                  go_wp2_with fail
                  go_roundw
                  case rel => exact ⟨3 + 1, by omega, by go_num, hb2, HC2.out⟩
                  case measure => simp [intOf]
                · have k0 : y.cell? ⟨z.heap.size, 4, none⟩ = some (.int .u32 51523585) := (HC.out.at 4).trans rfl
                  go_wp2_with fail
                  refine (dec_u w _ HB.out ht 51523585 0 0 0 0 0 (by omega) (by omega) (by decide +kernel)).mono ?_
                  rintro e u ⟨rfl, hu⟩
                  have hb2 := HB.out.trans (hu.mono HB.out.size)
                  have HC2 := Lib.hid (HC.out.keep hu)
                  clear hu k0
                  go_wp2_with fail
                  go_roundw
                  case rel => exact ⟨4 + 1, by omega, by go_num, hb2, HC2.out⟩
                  case measure => simp [intOf]
                · have k0 : y.cell? ⟨z.heap.size, 5, none⟩ = some (.int .u32 905969664) := (HC.out.at 5).trans rfl
                  go_wp2_with fail
                  refine (dec_u w _ HB.out ht 905969664 0 0 0 0 0 (by omega) (by omega) (by decide +kernel)).mono ?_
                  rintro e u ⟨rfl, hu⟩
                  have hb2 := HB.out.trans (hu.mono HB.out.size)
                  have HC2 := Lib.hid (HC.out.keep hu)
                  clear hu k0
                  go_wp2_with fail
                  go_roundw
                  case rel => exact ⟨5 + 1, by omega, by go_num, hb2, HC2.out⟩
                  case measure => simp [intOf]
                · have k0 : y.cell? ⟨z.heap.size, 6, none⟩ = some (.int .u32 855638017) := (HC.out.at 6).trans rfl
                  go_wp2_with fail
                  refine (dec_u w _ HB.out ht 855638017 0 0 0 0 0 (by omega) (by omega) (by decide +kernel)).mono ?_
                  rintro e u ⟨rfl, hu⟩
                  have hb2 := HB.out.trans (hu.mono HB.out.size)
                  have HC2 := Lib.hid (HC.out.keep hu)
                  clear hu k0
                  go_wp2_with fail
                  go_roundw
                  case rel => exact ⟨6 + 1, by omega, by go_num, hb2, HC2.out⟩
                  case measure => simp [intOf]
                · clear HC
                  go_wp2_with fail
                  refine (form_v w _ HB.out ht 30 ⟨#[97, 98]⟩ (by decide +kernel)).mono ?_
                  rintro e g1 ⟨rfl, p1⟩
                  go_wp2_with fail
                  refine (form_v w _ p1 ht 52 ⟨#[105]⟩ (by decide +kernel)).mono ?_
                  rintro e g2 ⟨rfl, p2⟩
                  go_wp2_with fail
                  refine (form_v w _ p2 ht 51 ⟨#[]⟩ (by decide +kernel)).mono ?_
                  rintro e g3 ⟨rfl, p3⟩
                  go_wp2_with fail
                  refine (form_v w _ p3 ht 19 ⟨#[97, 98, 105]⟩ (by decide +kernel)).mono ?_
                  rintro e g4 ⟨rfl, p4⟩
                  go_wp2_with fail
                  refine (form_v w _ p4 ht 1 ⟨#[97, 105]⟩ (by decide +kernel)).mono ?_
                  rintro e g5 ⟨rfl, p5⟩
                  go_wp2_with fail
                  refine (form_v w _ p5 ht 50 ⟨#[97, 98]⟩ (by decide +kernel)).mono ?_
                  rintro e g6 ⟨rfl, p6⟩
                  go_wp2_with fail
                  refine (form_v w _ p6 ht 49 ⟨#[97, 106]⟩ (by decide +kernel)).mono ?_
                  rintro e g7 ⟨rfl, p7⟩
                  go_wp2_with fail
                  refine (op_u w _ p7 ht ⟨#[116, 114, 97, 112]⟩ 53 (by decide +kernel)).mono ?_
                  rintro e g8 ⟨rfl, p8⟩
                  go_wp2_with fail
                  refine (op_u w _ p8 ht ⟨#[84, 114, 97, 112]⟩ 0 (by decide +kernel)).mono ?_
                  rintro e g9 ⟨rfl, p9⟩
                  go_wp2_with fail
                  refine (op_u w _ p9 ht ⟨#[]⟩ 0 (by decide +kernel)).mono ?_
                  rintro e g10 ⟨rfl, p10⟩
                  go_wp2_with fail
                  refine (op_u w _ p10 ht ⟨#[98, 97, 100]⟩ 0 (by decide +kernel)).mono ?_
                  rintro e g11 ⟨rfl, p11⟩
                  go_wp2_with fail
                  refine (form_v w _ p11 ht 3 ⟨#[97, 98, 99]⟩ (by decide +kernel)).mono ?_
                  rintro e g12 ⟨rfl, p12⟩
                  go_wp2_with fail
                  refine (form_v w _ p12 ht 2 ⟨#[97, 106]⟩ (by decide +kernel)).mono ?_
                  rintro e g13 ⟨rfl, p13⟩
                  go_wp2_with fail
                  refine (form_v w _ p13 ht 0 ⟨#[]⟩ (by decide +kernel)).mono ?_
                  rintro e g14 ⟨rfl, p14⟩
                  go_wp2_with fail
                  refine (form_v w _ p14 ht 54 ⟨#[]⟩ (by decide +kernel)).mono ?_
                  rintro e g15 ⟨rfl, p15⟩
                  go_wp2_with fail
                  refine (name_u w _ p15 ht 0 ⟨#[]⟩ (by decide +kernel)).mono ?_
                  rintro e g16 ⟨rfl, p16⟩
                  go_wp2_with fail
                  refine (name_u w _ p16 ht (-1) ⟨#[]⟩ (by decide +kernel)).mono ?_
                  rintro e g17 ⟨rfl, p17⟩
                  go_wp2_with fail
                  refine (name_u w _ p17 ht 4611686018427387904 ⟨#[]⟩ (by decide +kernel)).mono ?_
                  rintro e g18 ⟨rfl, p18⟩
                  go_wp2_with fail
                  refine (works_in w _ p18 ht).mono ?_
                  rintro e gz ⟨rfl, pz⟩
                  go_wp2_with fail
                  go_ret
                  exact ⟨rfl, pz⟩
end Go.Proofs.YtoaneiidomdljaaDoor
