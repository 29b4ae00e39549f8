/- What alu.Reckon answers, operation by operation, out of what the one function of the list answers; for every two numbers and every world. -/
import Derived.Test.YthaihlhikjidhaaOps
import Derived.Laws.EntriesVeiled
import Derived.Lib.Hide
namespace Go.Proofs.Ythaihlhikjidhaa
open Go.RowKit

theorem bcell {B : Nat} {W w1 : World} (hb : Below B W w1) : (∀ b o, b < B → w1.cell? ⟨b, o, none⟩ = W.cell? ⟨b, o, none⟩) ∧ (∀ b o, b < B → w1.frozen? ⟨b, o, none⟩ = W.frozen? ⟨b, o, none⟩) :=
  ⟨fun b o h => hb.cell (p := ⟨b, o, none⟩) h, fun b o h => hb.frozen (p := ⟨b, o, none⟩) h⟩

/-- the world behind the three boxes and the list -/
def world0 (w : World) : World := (((w.alloc (Obj.cells #[Value.int IntKind.u32 0] 22)).alloc (Obj.cells #[Value.int IntKind.i64 0] 23)).alloc
      (Obj.cells #[Value.bool false] 4)).alloc (Obj.cells opsCells 39)

structure At0 (w wr : World) : Prop where
  size : w.heap.size + 4 ≤ wr.heap.size
  below : Below w.heap.size w wr
  c1 : wr.cell? ⟨w.heap.size, 0, none⟩ = some (.int .u32 0)
  c2 : wr.cell? ⟨w.heap.size + 1, 0, none⟩ = some (.int .i64 0)
  c3 : wr.cell? ⟨w.heap.size + 1 + 1, 0, none⟩ = some (.bool false)
  f1 : wr.frozen? ⟨w.heap.size, 0, none⟩ = false
  f2 : wr.frozen? ⟨w.heap.size + 1, 0, none⟩ = false
  f3 : wr.frozen? ⟨w.heap.size + 1 + 1, 0, none⟩ = false
  ops : ∀ o, wr.cell? ⟨w.heap.size + 1 + 1 + 1, o, none⟩ = opsCells[o]?

theorem at0_alloc {w wr : World} (h : At0 w wr) (o : Obj) : At0 w (wr.alloc o) := by
  have hb : Below (w.heap.size + 4) wr (wr.alloc o) := (Below.refl _ _).alloc h.size o
  obtain ⟨g1, g2⟩ := bcell hb
  exact ⟨by have := h.size; simp; omega, h.below.trans (hb.mono (by omega)), by rw [g1 _ _ (by omega)]; exact h.c1, by rw [g1 _ _ (by omega)]; exact h.c2, by rw [g1 _ _ (by omega)]; exact h.c3,
    by rw [g2 _ _ (by omega)]; exact h.f1, by rw [g2 _ _ (by omega)]; exact h.f2, by rw [g2 _ _ (by omega)]; exact h.f3, fun o => by rw [g1 _ _ (by omega)]; exact h.ops o⟩

theorem at0_start (w : World) : At0 w (world0 w) := by
  unfold world0
  have cn : ∀ (W : World) (c : Array Value) (t : TypeId) (i : Nat), (W.alloc (.cells c t)).cell? ⟨W.heap.size, i, none⟩ = c[i]? := fun W c t i => by
    exact World.cell?_alloc_new W c t i
  have co : ∀ (W : World) (o : Obj) (b i : Nat), b < W.heap.size → (W.alloc o).cell? ⟨b, i, none⟩ = W.cell? ⟨b, i, none⟩ := fun W o b i h => World.cell?_alloc_lt W o ⟨b, i, none⟩ h
  have fn : ∀ (W : World) (c : Array Value) (t : TypeId) (i : Nat), (W.alloc (.cells c t)).frozen? ⟨W.heap.size, i, none⟩ = false := fun W c t i => World.frozen?_alloc_new W c t i
  have fo : ∀ (W : World) (o : Obj) (b i : Nat), b < W.heap.size → (W.alloc o).frozen? ⟨b, i, none⟩ = W.frozen? ⟨b, i, none⟩ := fun W o b i h => World.frozen?_alloc_old W o ⟨b, i, none⟩ (Nat.ne_of_lt h)
  have cn' : ∀ (W : World) (c : Array Value) (t : TypeId) (b i : Nat), b = W.heap.size → (W.alloc (.cells c t)).cell? ⟨b, i, none⟩ = c[i]? := fun W c t b i h => by subst h; exact cn W c t i
  have fn' : ∀ (W : World) (c : Array Value) (t : TypeId) (b i : Nat), b = W.heap.size → (W.alloc (.cells c t)).frozen? ⟨b, i, none⟩ = false := fun W c t b i h => by subst h; exact fn W c t i
  refine ⟨by simp, ((((Below.refl _ _).alloc (Nat.le_refl _) _).alloc (by simp) _).alloc (by simp <;> omega) _).alloc (by simp <;> omega) _, ?_, ?_, ?_, ?_, ?_, ?_, ?_⟩
  · rw [co _ _ _ _ (by simp <;> omega), co _ _ _ _ (by simp <;> omega), co _ _ _ _ (by simp), cn]; rfl
  · rw [co _ _ _ _ (by simp <;> omega), co _ _ _ _ (by simp), cn' _ _ _ _ _ (by simp)]; rfl
  · rw [co _ _ _ _ (by simp), cn' _ _ _ _ _ (by simp)]; rfl
  · rw [fo _ _ _ _ (by simp <;> omega), fo _ _ _ _ (by simp <;> omega), fo _ _ _ _ (by simp), fn]
  · rw [fo _ _ _ _ (by simp <;> omega), fo _ _ _ _ (by simp), fn' _ _ _ _ _ (by simp)]
  · rw [fo _ _ _ _ (by simp), fn' _ _ _ _ _ (by simp)]
  · intro o; rw [cn' _ _ _ _ _ (by simp)]

theorem store3 {w wr : World} (h : At0 w wr) (v1 v2 v3 : Value) :
    (((wr.setCell ⟨w.heap.size, 0, none⟩ v1).setCell ⟨w.heap.size + 1, 0, none⟩ v2).setCell ⟨w.heap.size + 1 + 1, 0, none⟩ v3).cell? ⟨w.heap.size, 0, none⟩ = some v1 ∧
    (((wr.setCell ⟨w.heap.size, 0, none⟩ v1).setCell ⟨w.heap.size + 1, 0, none⟩ v2).setCell ⟨w.heap.size + 1 + 1, 0, none⟩ v3).cell? ⟨w.heap.size + 1, 0, none⟩ = some v2 ∧
    (((wr.setCell ⟨w.heap.size, 0, none⟩ v1).setCell ⟨w.heap.size + 1, 0, none⟩ v2).setCell ⟨w.heap.size + 1 + 1, 0, none⟩ v3).cell? ⟨w.heap.size + 1 + 1, 0, none⟩ = some v3 ∧
    Below w.heap.size w (((wr.setCell ⟨w.heap.size, 0, none⟩ v1).setCell ⟨w.heap.size + 1, 0, none⟩ v2).setCell ⟨w.heap.size + 1 + 1, 0, none⟩ v3) := by
  refine ⟨?_, ?_, ?_, ((h.below.setCell (Nat.le_refl _) _).setCell (by simp) _).setCell (by simp <;> omega) _⟩
  · rw [World.cell?_setCell_other _ _ _ _ (addr_ne (by omega)), World.cell?_setCell_other _ _ _ _ (addr_ne (by omega)), World.cell?_setCell_same _ _ _ h.c1]
  · rw [World.cell?_setCell_other _ _ _ _ (addr_ne (by omega)), World.cell?_setCell_same (u := .int .i64 0)]
    rw [World.cell?_setCell_other _ _ _ _ (addr_ne (by omega)), h.c2]
  · rw [World.cell?_setCell_same (u := .bool false)]
    rw [World.cell?_setCell_other _ _ _ _ (addr_ne (by omega)), World.cell?_setCell_other _ _ _ _ (addr_ne (by omega)), h.c3]

theorem store3a {w wr : World} (h : At0 w wr) (v1 v2 v3 : Value) (o : Obj) :
    ((((wr.setCell ⟨w.heap.size, 0, none⟩ v1).setCell ⟨w.heap.size + 1, 0, none⟩ v2).setCell ⟨w.heap.size + 1 + 1, 0, none⟩ v3).alloc o).cell? ⟨w.heap.size, 0, none⟩ = some v1 ∧
    ((((wr.setCell ⟨w.heap.size, 0, none⟩ v1).setCell ⟨w.heap.size + 1, 0, none⟩ v2).setCell ⟨w.heap.size + 1 + 1, 0, none⟩ v3).alloc o).cell? ⟨w.heap.size + 1, 0, none⟩ = some v2 ∧
    ((((wr.setCell ⟨w.heap.size, 0, none⟩ v1).setCell ⟨w.heap.size + 1, 0, none⟩ v2).setCell ⟨w.heap.size + 1 + 1, 0, none⟩ v3).alloc o).cell? ⟨w.heap.size + 1 + 1, 0, none⟩ = some v3 ∧
    Below w.heap.size w ((((wr.setCell ⟨w.heap.size, 0, none⟩ v1).setCell ⟨w.heap.size + 1, 0, none⟩ v2).setCell ⟨w.heap.size + 1 + 1, 0, none⟩ v3).alloc o) := by
  obtain ⟨s1, s2, s3, sb⟩ := store3 h v1 v2 v3
  have hs := h.size
  have hz := sb.size
  have hz' : (((wr.setCell ⟨w.heap.size, 0, none⟩ v1).setCell ⟨w.heap.size + 1, 0, none⟩ v2).setCell ⟨w.heap.size + 1 + 1, 0, none⟩ v3).heap.size = wr.heap.size := by simp [World.setCell]
  refine ⟨?_, ?_, ?_, sb.alloc (by omega) _⟩
  · rw [World.cell?_alloc_lt _ _ _ (by rw [hz']; simp; omega), s1]
  · rw [World.cell?_alloc_lt _ _ _ (by rw [hz']; simp; omega), s2]
  · rw [World.cell?_alloc_lt _ _ _ (by rw [hz']; simp; omega), s3]

def fnAt (k : Nat) : Nat := [22, 23, 24, 25, 26, 27, 28, 29, 30, 31, 32, 34, 36].getD k 0
theorem ops_code : ∀ k : Nat, k < 13 → opsCells[k * 2]? = some (.int .i64 (3 + (k : Int))) := by
  intro k hk
  match k, hk with
  | 0, _ | 1, _ | 2, _ | 3, _ | 4, _ | 5, _ | 6, _ | 7, _ | 8, _ | 9, _ | 10, _ | 11, _ | 12, _ => rfl
theorem ops_fn : ∀ k : Nat, k < 13 → opsCells[k * 2 + 1]? = some (.func (.func (fnAt k)) #[] #[]) := by
  intro k hk
  match k, hk with
  | 0, _ | 1, _ | 2, _ | 3, _ | 4, _ | 5, _ | 6, _ | 7, _ | 8, _ | 9, _ | 10, _ | 11, _ | 12, _ => rfl


set_option maxHeartbeats 1000000 in
theorem reckon_3 (a b : Int) (r : Int) (w : World) (hop : ∀ W : World, Calls Try.prog 22 #[.int .u32 a, .int .u32 b] W fun e W' => e = .returned (.int .u32 r) ∧ W = W') :
   Calls Try.prog 10 #[.int .i64 3, .int .u32 a, .int .u32 b] w fun e w' => e = .returned (.tuple #[.int .u32 r, .int .i64 0, .bool true]) ∧ Below w.heap.size w w' := by
  have hmf : ∀ (fn : Fn) (first cap : Array Value) (w : World), (Instr.makeFunc fn first cap).run Try.prog w = .ok (.func fn first cap) w := fun _ _ _ _ => rfl
  have HO := Lib.hid hop
  clear hop
  go_enter_defers Try.func10, Try.ntmps10
  go_wp2_with (go_at_call 16; refine (ops_any _).mono ?_; rintro e w' ⟨rfl, rfl⟩)
  go_loopw [13] (fun i wr => ∃ k : Nat, k ≤ 0 ∧ i = .int .i64 k ∧ At0 w wr) (fun i _ => 13 - (intOf i).toNat)
  case atStart => exact ⟨0, Nat.zero_le _, rfl, at0_start w⟩
  case round =>
    obtain ⟨k, hk, rfl, h0⟩ := hrel
    obtain ⟨hs, hbl, c1, c2, c3, f1, f2, f3, hops⟩ := id h0
    have H0 := Lib.hid h0
    have o0 := hops (k * 2)
    have o1 := hops (k * 2 + 1)
    rw [ops_code k (by omega)] at o0
    rw [ops_fn k (by omega)] at o1
    clear hops h0
    have z0 : w.heap.size < wr.heap.size := by omega
    have z1 : w.heap.size + 1 < wr.heap.size := by omega
    have z2 : w.heap.size + 1 + 1 < wr.heap.size := by omega
    have z3 : w.heap.size + 1 + 1 + 1 < wr.heap.size := by omega
    by_cases hlt : k < 0
    · exfalso; omega
    · obtain rfl : k = 0 := by omega
      have hne : ((3 : Int) + ((0 : Nat) : Int) != 3) = false := rfl
      have o1' : wr.cell? ⟨w.heap.size + 1 + 1 + 1, 1, none⟩ = some (.func (.func 22) #[] #[]) := o1
      have o0' : wr.cell? ⟨w.heap.size + 1 + 1 + 1, 0, none⟩ = some (.int .i64 3) := o0
      clear o1 o0 hne
      go_wp2_with (go_at_call 22; refine (HO.out _).mono ?_; rintro e w' ⟨rfl, rfl⟩)
      refine leaves_cons (f := 17) (args := #[.pointer (some ⟨w.heap.size, 0, none⟩), .pointer (some ⟨w.heap.size + 1, 0, none⟩), .pointer (some ⟨w.heap.size + 1 + 1, 0, none⟩)]) (by simp) (by simp [go_sem]) ?_
      refine (catch_idle _ _ _ _).mono ?_
      rintro e u' w'' ⟨rfl, rfl, rfl⟩
      obtain ⟨d1, d2, d3, dB⟩ := store3a H0.out (.int .u32 r) (.int .i64 0) (.bool true) (Obj.cells #[Value.int IntKind.i64 3, Value.func (Fn.func 22) #[] #[]] 39)
      simp [Leaves, settle, results, Try.results10, go_sem, d1, d2, d3, dB]


set_option maxHeartbeats 1000000 in
theorem reckon_4 (a b : Int) (r : Int) (w : World) (hop : ∀ W : World, Calls Try.prog 23 #[.int .u32 a, .int .u32 b] W fun e W' => e = .returned (.int .u32 r) ∧ W = W') :
   Calls Try.prog 10 #[.int .i64 4, .int .u32 a, .int .u32 b] w fun e w' => e = .returned (.tuple #[.int .u32 r, .int .i64 0, .bool true]) ∧ Below w.heap.size w w' := by
  have hmf : ∀ (fn : Fn) (first cap : Array Value) (w : World), (Instr.makeFunc fn first cap).run Try.prog w = .ok (.func fn first cap) w := fun _ _ _ _ => rfl
  have HO := Lib.hid hop
  clear hop
  go_enter_defers Try.func10, Try.ntmps10
  go_wp2_with (go_at_call 16; refine (ops_any _).mono ?_; rintro e w' ⟨rfl, rfl⟩)
  go_loopw [13] (fun i wr => ∃ k : Nat, k ≤ 1 ∧ i = .int .i64 k ∧ At0 w wr) (fun i _ => 13 - (intOf i).toNat)
  case atStart => exact ⟨0, Nat.zero_le _, rfl, at0_start w⟩
  case round =>
    obtain ⟨k, hk, rfl, h0⟩ := hrel
    obtain ⟨hs, hbl, c1, c2, c3, f1, f2, f3, hops⟩ := id h0
    have H0 := Lib.hid h0
    have o0 := hops (k * 2)
    have o1 := hops (k * 2 + 1)
    rw [ops_code k (by omega)] at o0
    rw [ops_fn k (by omega)] at o1
    clear hops h0
    have z0 : w.heap.size < wr.heap.size := by omega
    have z1 : w.heap.size + 1 < wr.heap.size := by omega
    have z2 : w.heap.size + 1 + 1 < wr.heap.size := by omega
    have z3 : w.heap.size + 1 + 1 + 1 < wr.heap.size := by omega
    by_cases hlt : k < 1
    · have hne : ((3 : Int) + (k : Int) != 4) = true := by rw [bne_iff_ne]; omega
      go_wp2
      go_roundw
      case rel => exact ⟨k + 1, by omega, by go_num, at0_alloc H0.out _⟩
      case measure => simp [intOf]; omega
    · obtain rfl : k = 1 := by omega
      have hne : ((3 : Int) + ((1 : Nat) : Int) != 4) = false := rfl
      have o1' : wr.cell? ⟨w.heap.size + 1 + 1 + 1, 3, none⟩ = some (.func (.func 23) #[] #[]) := o1
      have o0' : wr.cell? ⟨w.heap.size + 1 + 1 + 1, 2, none⟩ = some (.int .i64 4) := o0
      clear o1 o0 hne
      go_wp2_with (go_at_call 23; refine (HO.out _).mono ?_; rintro e w' ⟨rfl, rfl⟩)
      refine leaves_cons (f := 17) (args := #[.pointer (some ⟨w.heap.size, 0, none⟩), .pointer (some ⟨w.heap.size + 1, 0, none⟩), .pointer (some ⟨w.heap.size + 1 + 1, 0, none⟩)]) (by simp) (by simp [go_sem]) ?_
      refine (catch_idle _ _ _ _).mono ?_
      rintro e u' w'' ⟨rfl, rfl, rfl⟩
      obtain ⟨d1, d2, d3, dB⟩ := store3a H0.out (.int .u32 r) (.int .i64 0) (.bool true) (Obj.cells #[Value.int IntKind.i64 4, Value.func (Fn.func 23) #[] #[]] 39)
      simp [Leaves, settle, results, Try.results10, go_sem, d1, d2, d3, dB]


set_option maxHeartbeats 1000000 in
theorem reckon_5 (a b : Int) (r : Int) (w : World) (hop : ∀ W : World, Calls Try.prog 24 #[.int .u32 a, .int .u32 b] W fun e W' => e = .returned (.int .u32 r) ∧ W = W') :
   Calls Try.prog 10 #[.int .i64 5, .int .u32 a, .int .u32 b] w fun e w' => e = .returned (.tuple #[.int .u32 r, .int .i64 0, .bool true]) ∧ Below w.heap.size w w' := by
  have hmf : ∀ (fn : Fn) (first cap : Array Value) (w : World), (Instr.makeFunc fn first cap).run Try.prog w = .ok (.func fn first cap) w := fun _ _ _ _ => rfl
  have HO := Lib.hid hop
  clear hop
  go_enter_defers Try.func10, Try.ntmps10
  go_wp2_with (go_at_call 16; refine (ops_any _).mono ?_; rintro e w' ⟨rfl, rfl⟩)
  go_loopw [13] (fun i wr => ∃ k : Nat, k ≤ 2 ∧ i = .int .i64 k ∧ At0 w wr) (fun i _ => 13 - (intOf i).toNat)
  case atStart => exact ⟨0, Nat.zero_le _, rfl, at0_start w⟩
  case round =>
    obtain ⟨k, hk, rfl, h0⟩ := hrel
    obtain ⟨hs, hbl, c1, c2, c3, f1, f2, f3, hops⟩ := id h0
    have H0 := Lib.hid h0
    have o0 := hops (k * 2)
    have o1 := hops (k * 2 + 1)
    rw [ops_code k (by omega)] at o0
    rw [ops_fn k (by omega)] at o1
    clear hops h0
    have z0 : w.heap.size < wr.heap.size := by omega
    have z1 : w.heap.size + 1 < wr.heap.size := by omega
    have z2 : w.heap.size + 1 + 1 < wr.heap.size := by omega
    have z3 : w.heap.size + 1 + 1 + 1 < wr.heap.size := by omega
    by_cases hlt : k < 2
    · have hne : ((3 : Int) + (k : Int) != 5) = true := by rw [bne_iff_ne]; omega
      go_wp2
      go_roundw
      case rel => exact ⟨k + 1, by omega, by go_num, at0_alloc H0.out _⟩
      case measure => simp [intOf]; omega
    · obtain rfl : k = 2 := by omega
      have hne : ((3 : Int) + ((2 : Nat) : Int) != 5) = false := rfl
      have o1' : wr.cell? ⟨w.heap.size + 1 + 1 + 1, 5, none⟩ = some (.func (.func 24) #[] #[]) := o1
      have o0' : wr.cell? ⟨w.heap.size + 1 + 1 + 1, 4, none⟩ = some (.int .i64 5) := o0
      clear o1 o0 hne
      go_wp2_with (go_at_call 24; refine (HO.out _).mono ?_; rintro e w' ⟨rfl, rfl⟩)
      refine leaves_cons (f := 17) (args := #[.pointer (some ⟨w.heap.size, 0, none⟩), .pointer (some ⟨w.heap.size + 1, 0, none⟩), .pointer (some ⟨w.heap.size + 1 + 1, 0, none⟩)]) (by simp) (by simp [go_sem]) ?_
      refine (catch_idle _ _ _ _).mono ?_
      rintro e u' w'' ⟨rfl, rfl, rfl⟩
      obtain ⟨d1, d2, d3, dB⟩ := store3a H0.out (.int .u32 r) (.int .i64 0) (.bool true) (Obj.cells #[Value.int IntKind.i64 5, Value.func (Fn.func 24) #[] #[]] 39)
      simp [Leaves, settle, results, Try.results10, go_sem, d1, d2, d3, dB]


set_option maxHeartbeats 1000000 in
theorem reckon_6 (a b : Int) (r : Int) (w : World) (hop : ∀ W : World, Calls Try.prog 25 #[.int .u32 a, .int .u32 b] W fun e W' => e = .returned (.int .u32 r) ∧ W = W') :
   Calls Try.prog 10 #[.int .i64 6, .int .u32 a, .int .u32 b] w fun e w' => e = .returned (.tuple #[.int .u32 r, .int .i64 0, .bool true]) ∧ Below w.heap.size w w' := by
  have hmf : ∀ (fn : Fn) (first cap : Array Value) (w : World), (Instr.makeFunc fn first cap).run Try.prog w = .ok (.func fn first cap) w := fun _ _ _ _ => rfl
  have HO := Lib.hid hop
  clear hop
  go_enter_defers Try.func10, Try.ntmps10
  go_wp2_with (go_at_call 16; refine (ops_any _).mono ?_; rintro e w' ⟨rfl, rfl⟩)
  go_loopw [13] (fun i wr => ∃ k : Nat, k ≤ 3 ∧ i = .int .i64 k ∧ At0 w wr) (fun i _ => 13 - (intOf i).toNat)
  case atStart => exact ⟨0, Nat.zero_le _, rfl, at0_start w⟩
  case round =>
    obtain ⟨k, hk, rfl, h0⟩ := hrel
    obtain ⟨hs, hbl, c1, c2, c3, f1, f2, f3, hops⟩ := id h0
    have H0 := Lib.hid h0
    have o0 := hops (k * 2)
    have o1 := hops (k * 2 + 1)
    rw [ops_code k (by omega)] at o0
    rw [ops_fn k (by omega)] at o1
    clear hops h0
    have z0 : w.heap.size < wr.heap.size := by omega
    have z1 : w.heap.size + 1 < wr.heap.size := by omega
    have z2 : w.heap.size + 1 + 1 < wr.heap.size := by omega
    have z3 : w.heap.size + 1 + 1 + 1 < wr.heap.size := by omega
    by_cases hlt : k < 3
    · have hne : ((3 : Int) + (k : Int) != 6) = true := by rw [bne_iff_ne]; omega
      go_wp2
      go_roundw
      case rel => exact ⟨k + 1, by omega, by go_num, at0_alloc H0.out _⟩
      case measure => simp [intOf]; omega
    · obtain rfl : k = 3 := by omega
      have hne : ((3 : Int) + ((3 : Nat) : Int) != 6) = false := rfl
      have o1' : wr.cell? ⟨w.heap.size + 1 + 1 + 1, 7, none⟩ = some (.func (.func 25) #[] #[]) := o1
      have o0' : wr.cell? ⟨w.heap.size + 1 + 1 + 1, 6, none⟩ = some (.int .i64 6) := o0
      clear o1 o0 hne
      go_wp2_with (go_at_call 25; refine (HO.out _).mono ?_; rintro e w' ⟨rfl, rfl⟩)
      refine leaves_cons (f := 17) (args := #[.pointer (some ⟨w.heap.size, 0, none⟩), .pointer (some ⟨w.heap.size + 1, 0, none⟩), .pointer (some ⟨w.heap.size + 1 + 1, 0, none⟩)]) (by simp) (by simp [go_sem]) ?_
      refine (catch_idle _ _ _ _).mono ?_
      rintro e u' w'' ⟨rfl, rfl, rfl⟩
      obtain ⟨d1, d2, d3, dB⟩ := store3a H0.out (.int .u32 r) (.int .i64 0) (.bool true) (Obj.cells #[Value.int IntKind.i64 6, Value.func (Fn.func 25) #[] #[]] 39)
      simp [Leaves, settle, results, Try.results10, go_sem, d1, d2, d3, dB]


set_option maxHeartbeats 1000000 in
theorem reckon_7 (a b : Int) (r : Int) (w : World) (hop : ∀ W : World, Calls Try.prog 26 #[.int .u32 a, .int .u32 b] W fun e W' => e = .returned (.int .u32 r) ∧ W = W') :
   Calls Try.prog 10 #[.int .i64 7, .int .u32 a, .int .u32 b] w fun e w' => e = .returned (.tuple #[.int .u32 r, .int .i64 0, .bool true]) ∧ Below w.heap.size w w' := by
  have hmf : ∀ (fn : Fn) (first cap : Array Value) (w : World), (Instr.makeFunc fn first cap).run Try.prog w = .ok (.func fn first cap) w := fun _ _ _ _ => rfl
  have HO := Lib.hid hop
  clear hop
  go_enter_defers Try.func10, Try.ntmps10
  go_wp2_with (go_at_call 16; refine (ops_any _).mono ?_; rintro e w' ⟨rfl, rfl⟩)
  go_loopw [13] (fun i wr => ∃ k : Nat, k ≤ 4 ∧ i = .int .i64 k ∧ At0 w wr) (fun i _ => 13 - (intOf i).toNat)
  case atStart => exact ⟨0, Nat.zero_le _, rfl, at0_start w⟩
  case round =>
    obtain ⟨k, hk, rfl, h0⟩ := hrel
    obtain ⟨hs, hbl, c1, c2, c3, f1, f2, f3, hops⟩ := id h0
    have H0 := Lib.hid h0
    have o0 := hops (k * 2)
    have o1 := hops (k * 2 + 1)
    rw [ops_code k (by omega)] at o0
    rw [ops_fn k (by omega)] at o1
    clear hops h0
    have z0 : w.heap.size < wr.heap.size := by omega
    have z1 : w.heap.size + 1 < wr.heap.size := by omega
    have z2 : w.heap.size + 1 + 1 < wr.heap.size := by omega
    have z3 : w.heap.size + 1 + 1 + 1 < wr.heap.size := by omega
    by_cases hlt : k < 4
    · have hne : ((3 : Int) + (k : Int) != 7) = true := by rw [bne_iff_ne]; omega
      go_wp2
      go_roundw
      case rel => exact ⟨k + 1, by omega, by go_num, at0_alloc H0.out _⟩
      case measure => simp [intOf]; omega
    · obtain rfl : k = 4 := by omega
      have hne : ((3 : Int) + ((4 : Nat) : Int) != 7) = false := rfl
      have o1' : wr.cell? ⟨w.heap.size + 1 + 1 + 1, 9, none⟩ = some (.func (.func 26) #[] #[]) := o1
      have o0' : wr.cell? ⟨w.heap.size + 1 + 1 + 1, 8, none⟩ = some (.int .i64 7) := o0
      clear o1 o0 hne
      go_wp2_with (go_at_call 26; refine (HO.out _).mono ?_; rintro e w' ⟨rfl, rfl⟩)
      refine leaves_cons (f := 17) (args := #[.pointer (some ⟨w.heap.size, 0, none⟩), .pointer (some ⟨w.heap.size + 1, 0, none⟩), .pointer (some ⟨w.heap.size + 1 + 1, 0, none⟩)]) (by simp) (by simp [go_sem]) ?_
      refine (catch_idle _ _ _ _).mono ?_
      rintro e u' w'' ⟨rfl, rfl, rfl⟩
      obtain ⟨d1, d2, d3, dB⟩ := store3a H0.out (.int .u32 r) (.int .i64 0) (.bool true) (Obj.cells #[Value.int IntKind.i64 7, Value.func (Fn.func 26) #[] #[]] 39)
      simp [Leaves, settle, results, Try.results10, go_sem, d1, d2, d3, dB]


set_option maxHeartbeats 1000000 in
theorem reckon_8 (a b : Int) (r : Int) (w : World) (hop : ∀ W : World, Calls Try.prog 27 #[.int .u32 a, .int .u32 b] W fun e W' => e = .returned (.int .u32 r) ∧ W = W') :
   Calls Try.prog 10 #[.int .i64 8, .int .u32 a, .int .u32 b] w fun e w' => e = .returned (.tuple #[.int .u32 r, .int .i64 0, .bool true]) ∧ Below w.heap.size w w' := by
  have hmf : ∀ (fn : Fn) (first cap : Array Value) (w : World), (Instr.makeFunc fn first cap).run Try.prog w = .ok (.func fn first cap) w := fun _ _ _ _ => rfl
  have HO := Lib.hid hop
  clear hop
  go_enter_defers Try.func10, Try.ntmps10
  go_wp2_with (go_at_call 16; refine (ops_any _).mono ?_; rintro e w' ⟨rfl, rfl⟩)
  go_loopw [13] (fun i wr => ∃ k : Nat, k ≤ 5 ∧ i = .int .i64 k ∧ At0 w wr) (fun i _ => 13 - (intOf i).toNat)
  case atStart => exact ⟨0, Nat.zero_le _, rfl, at0_start w⟩
  case round =>
    obtain ⟨k, hk, rfl, h0⟩ := hrel
    obtain ⟨hs, hbl, c1, c2, c3, f1, f2, f3, hops⟩ := id h0
    have H0 := Lib.hid h0
    have o0 := hops (k * 2)
    have o1 := hops (k * 2 + 1)
    rw [ops_code k (by omega)] at o0
    rw [ops_fn k (by omega)] at o1
    clear hops h0
    have z0 : w.heap.size < wr.heap.size := by omega
    have z1 : w.heap.size + 1 < wr.heap.size := by omega
    have z2 : w.heap.size + 1 + 1 < wr.heap.size := by omega
    have z3 : w.heap.size + 1 + 1 + 1 < wr.heap.size := by omega
    by_cases hlt : k < 5
    · have hne : ((3 : Int) + (k : Int) != 8) = true := by rw [bne_iff_ne]; omega
      go_wp2
      go_roundw
      case rel => exact ⟨k + 1, by omega, by go_num, at0_alloc H0.out _⟩
      case measure => simp [intOf]; omega
    · obtain rfl : k = 5 := by omega
      have hne : ((3 : Int) + ((5 : Nat) : Int) != 8) = false := rfl
      have o1' : wr.cell? ⟨w.heap.size + 1 + 1 + 1, 11, none⟩ = some (.func (.func 27) #[] #[]) := o1
      have o0' : wr.cell? ⟨w.heap.size + 1 + 1 + 1, 10, none⟩ = some (.int .i64 8) := o0
      clear o1 o0 hne
      go_wp2_with (go_at_call 27; refine (HO.out _).mono ?_; rintro e w' ⟨rfl, rfl⟩)
      refine leaves_cons (f := 17) (args := #[.pointer (some ⟨w.heap.size, 0, none⟩), .pointer (some ⟨w.heap.size + 1, 0, none⟩), .pointer (some ⟨w.heap.size + 1 + 1, 0, none⟩)]) (by simp) (by simp [go_sem]) ?_
      refine (catch_idle _ _ _ _).mono ?_
      rintro e u' w'' ⟨rfl, rfl, rfl⟩
      obtain ⟨d1, d2, d3, dB⟩ := store3a H0.out (.int .u32 r) (.int .i64 0) (.bool true) (Obj.cells #[Value.int IntKind.i64 8, Value.func (Fn.func 27) #[] #[]] 39)
      simp [Leaves, settle, results, Try.results10, go_sem, d1, d2, d3, dB]


set_option maxHeartbeats 1000000 in
theorem reckon_9 (a b : Int) (r : Int) (w : World) (hop : ∀ W : World, Calls Try.prog 28 #[.int .u32 a, .int .u32 b] W fun e W' => e = .returned (.int .u32 r) ∧ W = W') :
   Calls Try.prog 10 #[.int .i64 9, .int .u32 a, .int .u32 b] w fun e w' => e = .returned (.tuple #[.int .u32 r, .int .i64 0, .bool true]) ∧ Below w.heap.size w w' := by
  have hmf : ∀ (fn : Fn) (first cap : Array Value) (w : World), (Instr.makeFunc fn first cap).run Try.prog w = .ok (.func fn first cap) w := fun _ _ _ _ => rfl
  have HO := Lib.hid hop
  clear hop
  go_enter_defers Try.func10, Try.ntmps10
  go_wp2_with (go_at_call 16; refine (ops_any _).mono ?_; rintro e w' ⟨rfl, rfl⟩)
  go_loopw [13] (fun i wr => ∃ k : Nat, k ≤ 6 ∧ i = .int .i64 k ∧ At0 w wr) (fun i _ => 13 - (intOf i).toNat)
  case atStart => exact ⟨0, Nat.zero_le _, rfl, at0_start w⟩
  case round =>
    obtain ⟨k, hk, rfl, h0⟩ := hrel
    obtain ⟨hs, hbl, c1, c2, c3, f1, f2, f3, hops⟩ := id h0
    have H0 := Lib.hid h0
    have o0 := hops (k * 2)
    have o1 := hops (k * 2 + 1)
    rw [ops_code k (by omega)] at o0
    rw [ops_fn k (by omega)] at o1
    clear hops h0
    have z0 : w.heap.size < wr.heap.size := by omega
    have z1 : w.heap.size + 1 < wr.heap.size := by omega
    have z2 : w.heap.size + 1 + 1 < wr.heap.size := by omega
    have z3 : w.heap.size + 1 + 1 + 1 < wr.heap.size := by omega
    by_cases hlt : k < 6
    · have hne : ((3 : Int) + (k : Int) != 9) = true := by rw [bne_iff_ne]; omega
      go_wp2
      go_roundw
      case rel => exact ⟨k + 1, by omega, by go_num, at0_alloc H0.out _⟩
      case measure => simp [intOf]; omega
    · obtain rfl : k = 6 := by omega
      have hne : ((3 : Int) + ((6 : Nat) : Int) != 9) = false := rfl
      have o1' : wr.cell? ⟨w.heap.size + 1 + 1 + 1, 13, none⟩ = some (.func (.func 28) #[] #[]) := o1
      have o0' : wr.cell? ⟨w.heap.size + 1 + 1 + 1, 12, none⟩ = some (.int .i64 9) := o0
      clear o1 o0 hne
      go_wp2_with (go_at_call 28; refine (HO.out _).mono ?_; rintro e w' ⟨rfl, rfl⟩)
      refine leaves_cons (f := 17) (args := #[.pointer (some ⟨w.heap.size, 0, none⟩), .pointer (some ⟨w.heap.size + 1, 0, none⟩), .pointer (some ⟨w.heap.size + 1 + 1, 0, none⟩)]) (by simp) (by simp [go_sem]) ?_
      refine (catch_idle _ _ _ _).mono ?_
      rintro e u' w'' ⟨rfl, rfl, rfl⟩
      obtain ⟨d1, d2, d3, dB⟩ := store3a H0.out (.int .u32 r) (.int .i64 0) (.bool true) (Obj.cells #[Value.int IntKind.i64 9, Value.func (Fn.func 28) #[] #[]] 39)
      simp [Leaves, settle, results, Try.results10, go_sem, d1, d2, d3, dB]


set_option maxHeartbeats 1000000 in
theorem reckon_10 (a b : Int) (r : Int) (w : World) (hop : ∀ W : World, Calls Try.prog 29 #[.int .u32 a, .int .u32 b] W fun e W' => e = .returned (.int .u32 r) ∧ W = W') :
   Calls Try.prog 10 #[.int .i64 10, .int .u32 a, .int .u32 b] w fun e w' => e = .returned (.tuple #[.int .u32 r, .int .i64 0, .bool true]) ∧ Below w.heap.size w w' := by
  have hmf : ∀ (fn : Fn) (first cap : Array Value) (w : World), (Instr.makeFunc fn first cap).run Try.prog w = .ok (.func fn first cap) w := fun _ _ _ _ => rfl
  have HO := Lib.hid hop
  clear hop
  go_enter_defers Try.func10, Try.ntmps10
  go_wp2_with (go_at_call 16; refine (ops_any _).mono ?_; rintro e w' ⟨rfl, rfl⟩)
  go_loopw [13] (fun i wr => ∃ k : Nat, k ≤ 7 ∧ i = .int .i64 k ∧ At0 w wr) (fun i _ => 13 - (intOf i).toNat)
  case atStart => exact ⟨0, Nat.zero_le _, rfl, at0_start w⟩
  case round =>
    obtain ⟨k, hk, rfl, h0⟩ := hrel
    obtain ⟨hs, hbl, c1, c2, c3, f1, f2, f3, hops⟩ := id h0
    have H0 := Lib.hid h0
    have o0 := hops (k * 2)
    have o1 := hops (k * 2 + 1)
    rw [ops_code k (by omega)] at o0
    rw [ops_fn k (by omega)] at o1
    clear hops h0
    have z0 : w.heap.size < wr.heap.size := by omega
    have z1 : w.heap.size + 1 < wr.heap.size := by omega
    have z2 : w.heap.size + 1 + 1 < wr.heap.size := by omega
    have z3 : w.heap.size + 1 + 1 + 1 < wr.heap.size := by omega
    by_cases hlt : k < 7
    · have hne : ((3 : Int) + (k : Int) != 10) = true := by rw [bne_iff_ne]; omega
      go_wp2
      go_roundw
      case rel => exact ⟨k + 1, by omega, by go_num, at0_alloc H0.out _⟩
      case measure => simp [intOf]; omega
    · obtain rfl : k = 7 := by omega
      have hne : ((3 : Int) + ((7 : Nat) : Int) != 10) = false := rfl
      have o1' : wr.cell? ⟨w.heap.size + 1 + 1 + 1, 15, none⟩ = some (.func (.func 29) #[] #[]) := o1
      have o0' : wr.cell? ⟨w.heap.size + 1 + 1 + 1, 14, none⟩ = some (.int .i64 10) := o0
      clear o1 o0 hne
      go_wp2_with (go_at_call 29; refine (HO.out _).mono ?_; rintro e w' ⟨rfl, rfl⟩)
      refine leaves_cons (f := 17) (args := #[.pointer (some ⟨w.heap.size, 0, none⟩), .pointer (some ⟨w.heap.size + 1, 0, none⟩), .pointer (some ⟨w.heap.size + 1 + 1, 0, none⟩)]) (by simp) (by simp [go_sem]) ?_
      refine (catch_idle _ _ _ _).mono ?_
      rintro e u' w'' ⟨rfl, rfl, rfl⟩
      obtain ⟨d1, d2, d3, dB⟩ := store3a H0.out (.int .u32 r) (.int .i64 0) (.bool true) (Obj.cells #[Value.int IntKind.i64 10, Value.func (Fn.func 29) #[] #[]] 39)
      simp [Leaves, settle, results, Try.results10, go_sem, d1, d2, d3, dB]


set_option maxHeartbeats 1000000 in
theorem reckon_11 (a b : Int) (r : Int) (w : World) (hop : ∀ W : World, Calls Try.prog 30 #[.int .u32 a, .int .u32 b] W fun e W' => e = .returned (.int .u32 r) ∧ W = W') :
   Calls Try.prog 10 #[.int .i64 11, .int .u32 a, .int .u32 b] w fun e w' => e = .returned (.tuple #[.int .u32 r, .int .i64 0, .bool true]) ∧ Below w.heap.size w w' := by
  have hmf : ∀ (fn : Fn) (first cap : Array Value) (w : World), (Instr.makeFunc fn first cap).run Try.prog w = .ok (.func fn first cap) w := fun _ _ _ _ => rfl
  have HO := Lib.hid hop
  clear hop
  go_enter_defers Try.func10, Try.ntmps10
  go_wp2_with (go_at_call 16; refine (ops_any _).mono ?_; rintro e w' ⟨rfl, rfl⟩)
  go_loopw [13] (fun i wr => ∃ k : Nat, k ≤ 8 ∧ i = .int .i64 k ∧ At0 w wr) (fun i _ => 13 - (intOf i).toNat)
  case atStart => exact ⟨0, Nat.zero_le _, rfl, at0_start w⟩
  case round =>
    obtain ⟨k, hk, rfl, h0⟩ := hrel
    obtain ⟨hs, hbl, c1, c2, c3, f1, f2, f3, hops⟩ := id h0
    have H0 := Lib.hid h0
    have o0 := hops (k * 2)
    have o1 := hops (k * 2 + 1)
    rw [ops_code k (by omega)] at o0
    rw [ops_fn k (by omega)] at o1
    clear hops h0
    have z0 : w.heap.size < wr.heap.size := by omega
    have z1 : w.heap.size + 1 < wr.heap.size := by omega
    have z2 : w.heap.size + 1 + 1 < wr.heap.size := by omega
    have z3 : w.heap.size + 1 + 1 + 1 < wr.heap.size := by omega
    by_cases hlt : k < 8
    · have hne : ((3 : Int) + (k : Int) != 11) = true := by rw [bne_iff_ne]; omega
      go_wp2
      go_roundw
      case rel => exact ⟨k + 1, by omega, by go_num, at0_alloc H0.out _⟩
      case measure => simp [intOf]; omega
    · obtain rfl : k = 8 := by omega
      have hne : ((3 : Int) + ((8 : Nat) : Int) != 11) = false := rfl
      have o1' : wr.cell? ⟨w.heap.size + 1 + 1 + 1, 17, none⟩ = some (.func (.func 30) #[] #[]) := o1
      have o0' : wr.cell? ⟨w.heap.size + 1 + 1 + 1, 16, none⟩ = some (.int .i64 11) := o0
      clear o1 o0 hne
      go_wp2_with (go_at_call 30; refine (HO.out _).mono ?_; rintro e w' ⟨rfl, rfl⟩)
      refine leaves_cons (f := 17) (args := #[.pointer (some ⟨w.heap.size, 0, none⟩), .pointer (some ⟨w.heap.size + 1, 0, none⟩), .pointer (some ⟨w.heap.size + 1 + 1, 0, none⟩)]) (by simp) (by simp [go_sem]) ?_
      refine (catch_idle _ _ _ _).mono ?_
      rintro e u' w'' ⟨rfl, rfl, rfl⟩
      obtain ⟨d1, d2, d3, dB⟩ := store3a H0.out (.int .u32 r) (.int .i64 0) (.bool true) (Obj.cells #[Value.int IntKind.i64 11, Value.func (Fn.func 30) #[] #[]] 39)
      simp [Leaves, settle, results, Try.results10, go_sem, d1, d2, d3, dB]


set_option maxHeartbeats 1000000 in
theorem reckon_12 (a b : Int) (r : Int) (w : World) (hop : ∀ W : World, Calls Try.prog 31 #[.int .u32 a, .int .u32 b] W fun e W' => e = .returned (.int .u32 r) ∧ W = W') :
   Calls Try.prog 10 #[.int .i64 12, .int .u32 a, .int .u32 b] w fun e w' => e = .returned (.tuple #[.int .u32 r, .int .i64 0, .bool true]) ∧ Below w.heap.size w w' := by
  have hmf : ∀ (fn : Fn) (first cap : Array Value) (w : World), (Instr.makeFunc fn first cap).run Try.prog w = .ok (.func fn first cap) w := fun _ _ _ _ => rfl
  have HO := Lib.hid hop
  clear hop
  go_enter_defers Try.func10, Try.ntmps10
  go_wp2_with (go_at_call 16; refine (ops_any _).mono ?_; rintro e w' ⟨rfl, rfl⟩)
  go_loopw [13] (fun i wr => ∃ k : Nat, k ≤ 9 ∧ i = .int .i64 k ∧ At0 w wr) (fun i _ => 13 - (intOf i).toNat)
  case atStart => exact ⟨0, Nat.zero_le _, rfl, at0_start w⟩
  case round =>
    obtain ⟨k, hk, rfl, h0⟩ := hrel
    obtain ⟨hs, hbl, c1, c2, c3, f1, f2, f3, hops⟩ := id h0
    have H0 := Lib.hid h0
    have o0 := hops (k * 2)
    have o1 := hops (k * 2 + 1)
    rw [ops_code k (by omega)] at o0
    rw [ops_fn k (by omega)] at o1
    clear hops h0
    have z0 : w.heap.size < wr.heap.size := by omega
    have z1 : w.heap.size + 1 < wr.heap.size := by omega
    have z2 : w.heap.size + 1 + 1 < wr.heap.size := by omega
    have z3 : w.heap.size + 1 + 1 + 1 < wr.heap.size := by omega
    by_cases hlt : k < 9
    · have hne : ((3 : Int) + (k : Int) != 12) = true := by rw [bne_iff_ne]; omega
      go_wp2
      go_roundw
      case rel => exact ⟨k + 1, by omega, by go_num, at0_alloc H0.out _⟩
      case measure => simp [intOf]; omega
    · obtain rfl : k = 9 := by omega
      have hne : ((3 : Int) + ((9 : Nat) : Int) != 12) = false := rfl
      have o1' : wr.cell? ⟨w.heap.size + 1 + 1 + 1, 19, none⟩ = some (.func (.func 31) #[] #[]) := o1
      have o0' : wr.cell? ⟨w.heap.size + 1 + 1 + 1, 18, none⟩ = some (.int .i64 12) := o0
      clear o1 o0 hne
      go_wp2_with (go_at_call 31; refine (HO.out _).mono ?_; rintro e w' ⟨rfl, rfl⟩)
      refine leaves_cons (f := 17) (args := #[.pointer (some ⟨w.heap.size, 0, none⟩), .pointer (some ⟨w.heap.size + 1, 0, none⟩), .pointer (some ⟨w.heap.size + 1 + 1, 0, none⟩)]) (by simp) (by simp [go_sem]) ?_
      refine (catch_idle _ _ _ _).mono ?_
      rintro e u' w'' ⟨rfl, rfl, rfl⟩
      obtain ⟨d1, d2, d3, dB⟩ := store3a H0.out (.int .u32 r) (.int .i64 0) (.bool true) (Obj.cells #[Value.int IntKind.i64 12, Value.func (Fn.func 31) #[] #[]] 39)
      simp [Leaves, settle, results, Try.results10, go_sem, d1, d2, d3, dB]


set_option maxHeartbeats 1000000 in
theorem reckon_13 (a b : Int) (r : Int) (w : World) (hop : ∀ W : World, Calls Try.prog 32 #[.int .u32 a, .int .u32 b] W fun e W' => e = .returned (.int .u32 r) ∧ W = W') :
   Calls Try.prog 10 #[.int .i64 13, .int .u32 a, .int .u32 b] w fun e w' => e = .returned (.tuple #[.int .u32 r, .int .i64 0, .bool true]) ∧ Below w.heap.size w w' := by
  have hmf : ∀ (fn : Fn) (first cap : Array Value) (w : World), (Instr.makeFunc fn first cap).run Try.prog w = .ok (.func fn first cap) w := fun _ _ _ _ => rfl
  have HO := Lib.hid hop
  clear hop
  go_enter_defers Try.func10, Try.ntmps10
  go_wp2_with (go_at_call 16; refine (ops_any _).mono ?_; rintro e w' ⟨rfl, rfl⟩)
  go_loopw [13] (fun i wr => ∃ k : Nat, k ≤ 10 ∧ i = .int .i64 k ∧ At0 w wr) (fun i _ => 13 - (intOf i).toNat)
  case atStart => exact ⟨0, Nat.zero_le _, rfl, at0_start w⟩
  case round =>
    obtain ⟨k, hk, rfl, h0⟩ := hrel
    obtain ⟨hs, hbl, c1, c2, c3, f1, f2, f3, hops⟩ := id h0
    have H0 := Lib.hid h0
    have o0 := hops (k * 2)
    have o1 := hops (k * 2 + 1)
    rw [ops_code k (by omega)] at o0
    rw [ops_fn k (by omega)] at o1
    clear hops h0
    have z0 : w.heap.size < wr.heap.size := by omega
    have z1 : w.heap.size + 1 < wr.heap.size := by omega
    have z2 : w.heap.size + 1 + 1 < wr.heap.size := by omega
    have z3 : w.heap.size + 1 + 1 + 1 < wr.heap.size := by omega
    by_cases hlt : k < 10
    · have hne : ((3 : Int) + (k : Int) != 13) = true := by rw [bne_iff_ne]; omega
      go_wp2
      go_roundw
      case rel => exact ⟨k + 1, by omega, by go_num, at0_alloc H0.out _⟩
      case measure => simp [intOf]; omega
    · obtain rfl : k = 10 := by omega
      have hne : ((3 : Int) + ((10 : Nat) : Int) != 13) = false := rfl
      have o1' : wr.cell? ⟨w.heap.size + 1 + 1 + 1, 21, none⟩ = some (.func (.func 32) #[] #[]) := o1
      have o0' : wr.cell? ⟨w.heap.size + 1 + 1 + 1, 20, none⟩ = some (.int .i64 13) := o0
      clear o1 o0 hne
      go_wp2_with (go_at_call 32; refine (HO.out _).mono ?_; rintro e w' ⟨rfl, rfl⟩)
      refine leaves_cons (f := 17) (args := #[.pointer (some ⟨w.heap.size, 0, none⟩), .pointer (some ⟨w.heap.size + 1, 0, none⟩), .pointer (some ⟨w.heap.size + 1 + 1, 0, none⟩)]) (by simp) (by simp [go_sem]) ?_
      refine (catch_idle _ _ _ _).mono ?_
      rintro e u' w'' ⟨rfl, rfl, rfl⟩
      obtain ⟨d1, d2, d3, dB⟩ := store3a H0.out (.int .u32 r) (.int .i64 0) (.bool true) (Obj.cells #[Value.int IntKind.i64 13, Value.func (Fn.func 32) #[] #[]] 39)
      simp [Leaves, settle, results, Try.results10, go_sem, d1, d2, d3, dB]


set_option maxHeartbeats 1000000 in
theorem reckon_14 (a b : Int) (r : Int) (w : World) (hop : ∀ W : World, Calls Try.prog 34 #[.int .u32 a, .int .u32 b] W fun e W' => e = .returned (.int .u32 r) ∧ W = W') :
   Calls Try.prog 10 #[.int .i64 14, .int .u32 a, .int .u32 b] w fun e w' => e = .returned (.tuple #[.int .u32 r, .int .i64 0, .bool true]) ∧ Below w.heap.size w w' := by
  have hmf : ∀ (fn : Fn) (first cap : Array Value) (w : World), (Instr.makeFunc fn first cap).run Try.prog w = .ok (.func fn first cap) w := fun _ _ _ _ => rfl
  have HO := Lib.hid hop
  clear hop
  go_enter_defers Try.func10, Try.ntmps10
  go_wp2_with (go_at_call 16; refine (ops_any _).mono ?_; rintro e w' ⟨rfl, rfl⟩)
  go_loopw [13] (fun i wr => ∃ k : Nat, k ≤ 11 ∧ i = .int .i64 k ∧ At0 w wr) (fun i _ => 13 - (intOf i).toNat)
  case atStart => exact ⟨0, Nat.zero_le _, rfl, at0_start w⟩
  case round =>
    obtain ⟨k, hk, rfl, h0⟩ := hrel
    obtain ⟨hs, hbl, c1, c2, c3, f1, f2, f3, hops⟩ := id h0
    have H0 := Lib.hid h0
    have o0 := hops (k * 2)
    have o1 := hops (k * 2 + 1)
    rw [ops_code k (by omega)] at o0
    rw [ops_fn k (by omega)] at o1
    clear hops h0
    have z0 : w.heap.size < wr.heap.size := by omega
    have z1 : w.heap.size + 1 < wr.heap.size := by omega
    have z2 : w.heap.size + 1 + 1 < wr.heap.size := by omega
    have z3 : w.heap.size + 1 + 1 + 1 < wr.heap.size := by omega
    by_cases hlt : k < 11
    · have hne : ((3 : Int) + (k : Int) != 14) = true := by rw [bne_iff_ne]; omega
      go_wp2
      go_roundw
      case rel => exact ⟨k + 1, by omega, by go_num, at0_alloc H0.out _⟩
      case measure => simp [intOf]; omega
    · obtain rfl : k = 11 := by omega
      have hne : ((3 : Int) + ((11 : Nat) : Int) != 14) = false := rfl
      have o1' : wr.cell? ⟨w.heap.size + 1 + 1 + 1, 23, none⟩ = some (.func (.func 34) #[] #[]) := o1
      have o0' : wr.cell? ⟨w.heap.size + 1 + 1 + 1, 22, none⟩ = some (.int .i64 14) := o0
      clear o1 o0 hne
      go_wp2_with (go_at_call 34; refine (HO.out _).mono ?_; rintro e w' ⟨rfl, rfl⟩)
      refine leaves_cons (f := 17) (args := #[.pointer (some ⟨w.heap.size, 0, none⟩), .pointer (some ⟨w.heap.size + 1, 0, none⟩), .pointer (some ⟨w.heap.size + 1 + 1, 0, none⟩)]) (by simp) (by simp [go_sem]) ?_
      refine (catch_idle _ _ _ _).mono ?_
      rintro e u' w'' ⟨rfl, rfl, rfl⟩
      obtain ⟨d1, d2, d3, dB⟩ := store3a H0.out (.int .u32 r) (.int .i64 0) (.bool true) (Obj.cells #[Value.int IntKind.i64 14, Value.func (Fn.func 34) #[] #[]] 39)
      simp [Leaves, settle, results, Try.results10, go_sem, d1, d2, d3, dB]


set_option maxHeartbeats 1000000 in
theorem reckon_15 (a b : Int) (r : Int) (w : World) (hop : ∀ W : World, Calls Try.prog 36 #[.int .u32 a, .int .u32 b] W fun e W' => e = .returned (.int .u32 r) ∧ W = W') :
   Calls Try.prog 10 #[.int .i64 15, .int .u32 a, .int .u32 b] w fun e w' => e = .returned (.tuple #[.int .u32 r, .int .i64 0, .bool true]) ∧ Below w.heap.size w w' := by
  have hmf : ∀ (fn : Fn) (first cap : Array Value) (w : World), (Instr.makeFunc fn first cap).run Try.prog w = .ok (.func fn first cap) w := fun _ _ _ _ => rfl
  have HO := Lib.hid hop
  clear hop
  go_enter_defers Try.func10, Try.ntmps10
  go_wp2_with (go_at_call 16; refine (ops_any _).mono ?_; rintro e w' ⟨rfl, rfl⟩)
  go_loopw [13] (fun i wr => ∃ k : Nat, k ≤ 12 ∧ i = .int .i64 k ∧ At0 w wr) (fun i _ => 13 - (intOf i).toNat)
  case atStart => exact ⟨0, Nat.zero_le _, rfl, at0_start w⟩
  case round =>
    obtain ⟨k, hk, rfl, h0⟩ := hrel
    obtain ⟨hs, hbl, c1, c2, c3, f1, f2, f3, hops⟩ := id h0
    have H0 := Lib.hid h0
    have o0 := hops (k * 2)
    have o1 := hops (k * 2 + 1)
    rw [ops_code k (by omega)] at o0
    rw [ops_fn k (by omega)] at o1
    clear hops h0
    have z0 : w.heap.size < wr.heap.size := by omega
    have z1 : w.heap.size + 1 < wr.heap.size := by omega
    have z2 : w.heap.size + 1 + 1 < wr.heap.size := by omega
    have z3 : w.heap.size + 1 + 1 + 1 < wr.heap.size := by omega
    by_cases hlt : k < 12
    · have hne : ((3 : Int) + (k : Int) != 15) = true := by rw [bne_iff_ne]; omega
      go_wp2
      go_roundw
      case rel => exact ⟨k + 1, by omega, by go_num, at0_alloc H0.out _⟩
      case measure => simp [intOf]; omega
    · obtain rfl : k = 12 := by omega
      have hne : ((3 : Int) + ((12 : Nat) : Int) != 15) = false := rfl
      have o1' : wr.cell? ⟨w.heap.size + 1 + 1 + 1, 25, none⟩ = some (.func (.func 36) #[] #[]) := o1
      have o0' : wr.cell? ⟨w.heap.size + 1 + 1 + 1, 24, none⟩ = some (.int .i64 15) := o0
      clear o1 o0 hne
      go_wp2_with (go_at_call 36; refine (HO.out _).mono ?_; rintro e w' ⟨rfl, rfl⟩)
      refine leaves_cons (f := 17) (args := #[.pointer (some ⟨w.heap.size, 0, none⟩), .pointer (some ⟨w.heap.size + 1, 0, none⟩), .pointer (some ⟨w.heap.size + 1 + 1, 0, none⟩)]) (by simp) (by simp [go_sem]) ?_
      refine (catch_idle _ _ _ _).mono ?_
      rintro e u' w'' ⟨rfl, rfl, rfl⟩
      obtain ⟨d1, d2, d3, dB⟩ := store3a H0.out (.int .u32 r) (.int .i64 0) (.bool true) (Obj.cells #[Value.int IntKind.i64 15, Value.func (Fn.func 36) #[] #[]] 39)
      simp [Leaves, settle, results, Try.results10, go_sem, d1, d2, d3, dB]


set_option maxHeartbeats 1000000 in
theorem reckon_panic_6 (a b : Int) (u : TypeId) (pv : Value) (w : World) (hop : ∀ W : World, Calls Try.prog 25 #[.int .u32 a, .int .u32 b] W fun e W' => e = .panicked [{ v := .iface u pv, recovered := false }] ∧ W = W') :
   Calls Try.prog 10 #[.int .i64 6, .int .u32 a, .int .u32 b] w fun e w' => e = .returned (.tuple #[.int .u32 0, .int .i64 7, .bool true]) ∧ Below w.heap.size w w' := by
  have hmf : ∀ (fn : Fn) (first cap : Array Value) (w : World), (Instr.makeFunc fn first cap).run Try.prog w = .ok (.func fn first cap) w := fun _ _ _ _ => rfl
  have HO := Lib.hid hop
  clear hop
  go_enter_defers Try.func10, Try.ntmps10
  go_wp2_with (go_at_call 16; refine (ops_any _).mono ?_; rintro e w' ⟨rfl, rfl⟩)
  go_loopw [13] (fun i wr => ∃ k : Nat, k ≤ 3 ∧ i = .int .i64 k ∧ At0 w wr) (fun i _ => 13 - (intOf i).toNat)
  case atStart => exact ⟨0, Nat.zero_le _, rfl, at0_start w⟩
  case round =>
    obtain ⟨k, hk, rfl, h0⟩ := hrel
    obtain ⟨hs, hbl, c1, c2, c3, f1, f2, f3, hops⟩ := id h0
    have H0 := Lib.hid h0
    have o0 := hops (k * 2)
    have o1 := hops (k * 2 + 1)
    rw [ops_code k (by omega)] at o0
    rw [ops_fn k (by omega)] at o1
    clear hops h0
    have z0 : w.heap.size < wr.heap.size := by omega
    have z1 : w.heap.size + 1 < wr.heap.size := by omega
    have z2 : w.heap.size + 1 + 1 < wr.heap.size := by omega
    have z3 : w.heap.size + 1 + 1 + 1 < wr.heap.size := by omega
    by_cases hlt : k < 3
    · have hne : ((3 : Int) + (k : Int) != 6) = true := by rw [bne_iff_ne]; omega
      go_wp2
      go_roundw
      case rel => exact ⟨k + 1, by omega, by go_num, at0_alloc H0.out _⟩
      case measure => simp [intOf]; omega
    · obtain rfl : k = 3 := by omega
      have hne : ((3 : Int) + ((3 : Nat) : Int) != 6) = false := rfl
      have o1' : wr.cell? ⟨w.heap.size + 1 + 1 + 1, 7, none⟩ = some (.func (.func 25) #[] #[]) := o1
      have o0' : wr.cell? ⟨w.heap.size + 1 + 1 + 1, 6, none⟩ = some (.int .i64 6) := o0
      clear o1 o0 hne
      go_wp2_with (go_at_call 25; refine (HO.out _).mono ?_; rintro e w' ⟨rfl, rfl⟩)
      refine leaves_cons (f := 17) (args := #[.pointer (some ⟨w.heap.size, 0, none⟩), .pointer (some ⟨w.heap.size + 1, 0, none⟩), .pointer (some ⟨w.heap.size + 1 + 1, 0, none⟩)]) (by simp) (by simp [go_sem]) ?_
      have H1 := at0_alloc H0.out (Obj.cells #[Value.int IntKind.i64 6, Value.func (Fn.func 25) #[] #[]] 39)
      refine (catch_panicking w.heap.size (w.heap.size + 1) (w.heap.size + 1 + 1) 0 0 false u pv [] _ (by omega) (by omega) (by omega) H1.c1 H1.f1 H1.c2 H1.f2 H1.c3 H1.f3).mono ?_
      rintro e u' w'' ⟨rfl, rfl, rfl⟩
      obtain ⟨d1, d2, d3, dB⟩ := store3 H1 (.int .u32 0) (.int .i64 7) (.bool true)
      simp [Leaves, settle, results, Try.results10, go_sem, d1, d2, d3, dB]


set_option maxHeartbeats 1000000 in
theorem reckon_panic_7 (a b : Int) (u : TypeId) (pv : Value) (w : World) (hop : ∀ W : World, Calls Try.prog 26 #[.int .u32 a, .int .u32 b] W fun e W' => e = .panicked [{ v := .iface u pv, recovered := false }] ∧ W = W') :
   Calls Try.prog 10 #[.int .i64 7, .int .u32 a, .int .u32 b] w fun e w' => e = .returned (.tuple #[.int .u32 0, .int .i64 7, .bool true]) ∧ Below w.heap.size w w' := by
  have hmf : ∀ (fn : Fn) (first cap : Array Value) (w : World), (Instr.makeFunc fn first cap).run Try.prog w = .ok (.func fn first cap) w := fun _ _ _ _ => rfl
  have HO := Lib.hid hop
  clear hop
  go_enter_defers Try.func10, Try.ntmps10
  go_wp2_with (go_at_call 16; refine (ops_any _).mono ?_; rintro e w' ⟨rfl, rfl⟩)
  go_loopw [13] (fun i wr => ∃ k : Nat, k ≤ 4 ∧ i = .int .i64 k ∧ At0 w wr) (fun i _ => 13 - (intOf i).toNat)
  case atStart => exact ⟨0, Nat.zero_le _, rfl, at0_start w⟩
  case round =>
    obtain ⟨k, hk, rfl, h0⟩ := hrel
    obtain ⟨hs, hbl, c1, c2, c3, f1, f2, f3, hops⟩ := id h0
    have H0 := Lib.hid h0
    have o0 := hops (k * 2)
    have o1 := hops (k * 2 + 1)
    rw [ops_code k (by omega)] at o0
    rw [ops_fn k (by omega)] at o1
    clear hops h0
    have z0 : w.heap.size < wr.heap.size := by omega
    have z1 : w.heap.size + 1 < wr.heap.size := by omega
    have z2 : w.heap.size + 1 + 1 < wr.heap.size := by omega
    have z3 : w.heap.size + 1 + 1 + 1 < wr.heap.size := by omega
    by_cases hlt : k < 4
    · have hne : ((3 : Int) + (k : Int) != 7) = true := by rw [bne_iff_ne]; omega
      go_wp2
      go_roundw
      case rel => exact ⟨k + 1, by omega, by go_num, at0_alloc H0.out _⟩
      case measure => simp [intOf]; omega
    · obtain rfl : k = 4 := by omega
      have hne : ((3 : Int) + ((4 : Nat) : Int) != 7) = false := rfl
      have o1' : wr.cell? ⟨w.heap.size + 1 + 1 + 1, 9, none⟩ = some (.func (.func 26) #[] #[]) := o1
      have o0' : wr.cell? ⟨w.heap.size + 1 + 1 + 1, 8, none⟩ = some (.int .i64 7) := o0
      clear o1 o0 hne
      go_wp2_with (go_at_call 26; refine (HO.out _).mono ?_; rintro e w' ⟨rfl, rfl⟩)
      refine leaves_cons (f := 17) (args := #[.pointer (some ⟨w.heap.size, 0, none⟩), .pointer (some ⟨w.heap.size + 1, 0, none⟩), .pointer (some ⟨w.heap.size + 1 + 1, 0, none⟩)]) (by simp) (by simp [go_sem]) ?_
      have H1 := at0_alloc H0.out (Obj.cells #[Value.int IntKind.i64 7, Value.func (Fn.func 26) #[] #[]] 39)
      refine (catch_panicking w.heap.size (w.heap.size + 1) (w.heap.size + 1 + 1) 0 0 false u pv [] _ (by omega) (by omega) (by omega) H1.c1 H1.f1 H1.c2 H1.f2 H1.c3 H1.f3).mono ?_
      rintro e u' w'' ⟨rfl, rfl, rfl⟩
      obtain ⟨d1, d2, d3, dB⟩ := store3 H1 (.int .u32 0) (.int .i64 7) (.bool true)
      simp [Leaves, settle, results, Try.results10, go_sem, d1, d2, d3, dB]


set_option maxHeartbeats 1000000 in
theorem reckon_none (c a b : Int) (w : World) (hc : c < 3 ∨ 15 < c) :
   Calls Try.prog 10 #[.int .i64 c, .int .u32 a, .int .u32 b] w fun e w' => e = .returned (.tuple #[.int .u32 0, .int .i64 0, .bool false]) ∧ Below w.heap.size w w' := by
  have hmf : ∀ (fn : Fn) (first cap : Array Value) (w : World), (Instr.makeFunc fn first cap).run Try.prog w = .ok (.func fn first cap) w := fun _ _ _ _ => rfl
  go_enter_defers Try.func10, Try.ntmps10
  go_wp2_with (go_at_call 16; refine (ops_any _).mono ?_; rintro e w' ⟨rfl, rfl⟩)
  go_loopw [13] (fun i wr => ∃ k : Nat, k ≤ 13 ∧ i = .int .i64 k ∧ At0 w wr) (fun i _ => 13 - (intOf i).toNat)
  case atStart => exact ⟨0, Nat.zero_le _, rfl, at0_start w⟩
  case round =>
    obtain ⟨k, hk, rfl, h0⟩ := hrel
    obtain ⟨hs, hbl, c1, c2, c3, f1, f2, f3, hops⟩ := id h0
    have H0 := Lib.hid h0
    clear h0
    have z0 : w.heap.size < wr.heap.size := by omega
    have z1 : w.heap.size + 1 < wr.heap.size := by omega
    have z2 : w.heap.size + 1 + 1 < wr.heap.size := by omega
    have z3 : w.heap.size + 1 + 1 + 1 < wr.heap.size := by omega
    by_cases hlt : k < 13
    · have o0 := hops (k * 2)
      have o1 := hops (k * 2 + 1)
      rw [ops_code k (by omega)] at o0
      rw [ops_fn k (by omega)] at o1
      clear hops
      have hne : ((3 : Int) + (k : Int) != c) = true := by rw [bne_iff_ne]; omega
      go_wp2
      go_roundw
      case rel => exact ⟨k + 1, by omega, by go_num, at0_alloc H0.out _⟩
      case measure => simp [intOf]; omega
    · clear hops
      go_wp2
      obtain ⟨d1, d2, d3, dB⟩ := store3 H0.out (.int .u32 0) (.int .i64 0) (.bool false)
      simp [bodyPostD, Leaves, results, Try.results10, go_sem, d1, d2, d3, dB]

end Go.Proofs.Ythaihlhikjidhaa
