/- What the function literal put of isa.Encode does to the variables that it captures (printed by gen-put.py). -/
import Derived.Test.YtoaneiidomdljaaDoorTab
import Derived.Laws.BitsAllLaws
import Derived.BigRegion
import Derived.OneCell
namespace Go.Proofs.YtoaneiidomdljaaDoor
open Go.RowKit Go.Shelf

theorem drewN_below {B : Nat} {a w : World} (h : Below B a w) (n : Nat) : Below B a (w.drewN n) := ⟨h.os, h.tape, h.output, h.size, h.block⟩
theorem drew_below {B : Nat} {a w : World} (h : Below B a w) : Below B a w.drew := ⟨h.os, h.tape, h.output, h.size, h.block⟩

abbrev insV (op a b c m : Int) : Array Value := #[.int .i64 op, .int .i64 a, .int .i64 b, .int .i64 c, .int .i64 m]

/-- isa.Encode's variables: the instruction, the word, whether it was wrong -/
structure St (w0 w : World) (B C D : Nat) (o : Obj) (op a b c m W : Int) (x : Bool) : Prop where
  lt : B < C
  le : w0.heap.size ≤ B
  hi : w.heap[B]? = some (.cells (insV op a b c m) 23 (0, 0))
  hw : w.heap[C]? = some (.cells #[.int .u32 W] 24 (0, 0))
  hx : w.heap[C + 1]? = some (.cells #[.bool x] 4 (0, 0))
  ltD : C + 1 < D
  it : w.heap[D]? = some o
  bel : Below w0.heap.size w0 w

theorem frozen_of_row {w : World} {g : Nat} {cs : Array Value} {t : TypeId} (h : w.heap[g]? = some (.cells cs t (0, 0))) (j : Nat) : w.frozen? ⟨g, j, none⟩ = false := by simp [World.frozen?, h]

theorem St.put {w0 w : World} {B C D : Nat} {o : Obj} {op a b c m W op' a' b' c' m' : Int} {x : Bool} (h : St w0 w B C D o op a b c m W x) (j : Nat) (W' W2 : Int) (x' x2 : Bool) (nq : Nat)
    (hj : (insV op a b c m).setIfInBounds j (.int .i64 0) = insV op' a' b' c' m') (eW : W' = W2) (eX : x' = x2) :
    St w0 (((((w.drewN nq).setCell ⟨C + 1, 0, none⟩ (.bool x')).setCell ⟨C, 0, none⟩ (.int .u32 W')).setCell ⟨B, j, none⟩ (.int .i64 0)).drew) B C D o op' a' b' c' m' W2 x2 := by
  subst eW eX
  have hlt := h.lt
  have hltD := h.ltD
  refine ⟨h.lt, h.le, ?_, ?_, ?_, h.ltD, ?_, ?_⟩
  · show (World.setCell _ _ _).heap[B]? = _
    rw [heap_setCell_same _ B j (insV op a b c m) 23, hj]
    rw [heap_setCell_other _ _ _ _ (show B ≠ C by omega), heap_setCell_other _ _ _ _ (show B ≠ C + 1 by omega)]
    exact h.hi
  · show (World.setCell _ _ _).heap[C]? = _
    rw [heap_setCell_other _ _ _ _ (show C ≠ B by omega)]
    refine one_setCell (v := .int .u32 W) ?_
    rw [heap_setCell_other _ _ _ _ (show C ≠ C + 1 by omega)]
    exact h.hw
  · show (World.setCell _ _ _).heap[C + 1]? = _
    rw [heap_setCell_other _ _ _ _ (show C + 1 ≠ B by omega), heap_setCell_other _ _ _ _ (show C + 1 ≠ C by omega)]
    exact one_setCell (v := .bool x) h.hx
  · show (World.setCell _ _ _).heap[D]? = _
    rw [heap_setCell_other _ _ _ _ (show D ≠ B by omega), heap_setCell_other _ _ _ _ (show D ≠ C by omega), heap_setCell_other _ _ _ _ (show D ≠ C + 1 by omega)]
    exact h.it
  · have hle := h.le
    exact drew_below ((((drewN_below h.bel nq).setCell (show w0.heap.size ≤ C + 1 by omega) _).setCell (show w0.heap.size ≤ C by omega) _).setCell (show w0.heap.size ≤ B by omega) _)



theorem ar_a (W v : Int) (hW : W % 16777216 = 0) (hW0 : 0 ≤ W) (hW1 : W < 4294967296) : bits .or .u32 W (bits .and .u32 (v % 4294967296) 15 * 1048576 % 4294967296) = W + v % 16 * 1048576 := by
  have hv0 : 0 ≤ v % 4294967296 := by omega
  have hv1 : v % 4294967296 < 4294967296 := by omega
  have e1 : bits .and .u32 (v % 4294967296) 15 = v % 16 := by
    rw [u32_and _ _ hv0 hv1 (by omega) (by omega)]
    rw [show (15 : Int).toNat = 15 from rfl, nat_mask4]
    omega
  rw [e1]
  obtain ⟨k, hk⟩ : ∃ k, k = v % 16 * 1048576 := ⟨_, rfl⟩
  have hk0 : 0 ≤ k := by omega
  have hk1 : k < 16777216 := by omega
  have hk2 : k % 4294967296 = k := by omega
  rw [← hk, hk2, u32_or _ _ hW0 hW1 hk0 (by omega), nat_join 24 W.toNat k.toNat (by simp only [Nat.reducePow]; omega) (by simp only [Nat.reducePow]; omega)]
  omega

set_option maxHeartbeats 1000000 in
theorem put_a (w0 w : World) (B C D : Nat) (o : Obj) (op a b c m W : Int) (x : Bool) (h : St w0 w B C D o op a b c m W x) (hW : W % 16777216 = 0) (hW0 : 0 ≤ W) (hW1 : W < 4294967296) :
    Calls Tryd.prog 21 #[.pointer (some ⟨B, 1, none⟩), .int .i64 20, .int .i64 4, .bool false, .pointer (some ⟨C + 1, 0, none⟩), .pointer (some ⟨C, 0, none⟩)] w fun e w' =>
      e = .returned (.tuple #[]) ∧ St w0 w' B C D o op 0 b c m (W + a % 16 * 1048576) (x || (decide (a < 0) || decide (16 ≤ a))) := by
  have c1 : w.cell? ⟨B, 1, none⟩ = some (.int .i64 a) := (cell_of_row w B 1 _ _ _ h.hi).trans rfl
  have cw := cell_of_one h.hw
  have cx := cell_of_one h.hx
  have f1 := frozen_of_row h.hi 1
  have fw := free_of_one h.hw
  have fx := free_of_one h.hx
  have h1 := h.lt
  have H := Lib.hid h
  have A := Lib.hid (ar_a W a hW hW0 hW1)
  clear h
  cases x with
  | true =>
    go_enter Tryd.func21, Tryd.ntmps21
    go_wp2
    go_quiet (fail)
    go_wp2
    skip
    skip
    go_region
    all_goals go_wp2
    go_end0
    exact ⟨rfl, H.out.put 1 _ _ _ _ _ rfl A.out rfl⟩
  | false =>
    go_enter Tryd.func21, Tryd.ntmps21
    go_wp2
    go_quiet (fail)
    go_wp2
    skip
    skip
    all_goals go_region
    all_goals go_wp2
    all_goals go_end0
    · exact ⟨rfl, H.out.put 1 _ _ _ _ _ rfl A.out (by simp)⟩
    · exact ⟨rfl, H.out.put 1 _ _ _ _ _ rfl A.out (by simp [*])⟩

theorem ar_b (W v : Int) (hW : W % 1048576 = 0) (hW0 : 0 ≤ W) (hW1 : W < 4294967296) : bits .or .u32 W (bits .and .u32 (v % 4294967296) 15 * 65536 % 4294967296) = W + v % 16 * 65536 := by
  have hv0 : 0 ≤ v % 4294967296 := by omega
  have hv1 : v % 4294967296 < 4294967296 := by omega
  have e1 : bits .and .u32 (v % 4294967296) 15 = v % 16 := by
    rw [u32_and _ _ hv0 hv1 (by omega) (by omega)]
    rw [show (15 : Int).toNat = 15 from rfl, nat_mask4]
    omega
  rw [e1]
  obtain ⟨k, hk⟩ : ∃ k, k = v % 16 * 65536 := ⟨_, rfl⟩
  have hk0 : 0 ≤ k := by omega
  have hk1 : k < 1048576 := by omega
  have hk2 : k % 4294967296 = k := by omega
  rw [← hk, hk2, u32_or _ _ hW0 hW1 hk0 (by omega), nat_join 20 W.toNat k.toNat (by simp only [Nat.reducePow]; omega) (by simp only [Nat.reducePow]; omega)]
  omega

set_option maxHeartbeats 1000000 in
theorem put_b (w0 w : World) (B C D : Nat) (o : Obj) (op a b c m W : Int) (x : Bool) (h : St w0 w B C D o op a b c m W x) (hW : W % 1048576 = 0) (hW0 : 0 ≤ W) (hW1 : W < 4294967296) :
    Calls Tryd.prog 21 #[.pointer (some ⟨B, 2, none⟩), .int .i64 16, .int .i64 4, .bool false, .pointer (some ⟨C + 1, 0, none⟩), .pointer (some ⟨C, 0, none⟩)] w fun e w' =>
      e = .returned (.tuple #[]) ∧ St w0 w' B C D o op a 0 c m (W + b % 16 * 65536) (x || (decide (b < 0) || decide (16 ≤ b))) := by
  have c1 : w.cell? ⟨B, 2, none⟩ = some (.int .i64 b) := (cell_of_row w B 2 _ _ _ h.hi).trans rfl
  have cw := cell_of_one h.hw
  have cx := cell_of_one h.hx
  have f1 := frozen_of_row h.hi 2
  have fw := free_of_one h.hw
  have fx := free_of_one h.hx
  have h1 := h.lt
  have H := Lib.hid h
  have A := Lib.hid (ar_b W b hW hW0 hW1)
  clear h
  cases x with
  | true =>
    go_enter Tryd.func21, Tryd.ntmps21
    go_wp2
    go_quiet (fail)
    go_wp2
    skip
    skip
    go_region
    all_goals go_wp2
    go_end0
    exact ⟨rfl, H.out.put 2 _ _ _ _ _ rfl A.out rfl⟩
  | false =>
    go_enter Tryd.func21, Tryd.ntmps21
    go_wp2
    go_quiet (fail)
    go_wp2
    skip
    skip
    all_goals go_region
    all_goals go_wp2
    all_goals go_end0
    · exact ⟨rfl, H.out.put 2 _ _ _ _ _ rfl A.out (by simp)⟩
    · exact ⟨rfl, H.out.put 2 _ _ _ _ _ rfl A.out (by simp [*])⟩

theorem ar_c (W v : Int) (hW : W % 65536 = 0) (hW0 : 0 ≤ W) (hW1 : W < 4294967296) : bits .or .u32 W (bits .and .u32 (v % 4294967296) 15 * 4096 % 4294967296) = W + v % 16 * 4096 := by
  have hv0 : 0 ≤ v % 4294967296 := by omega
  have hv1 : v % 4294967296 < 4294967296 := by omega
  have e1 : bits .and .u32 (v % 4294967296) 15 = v % 16 := by
    rw [u32_and _ _ hv0 hv1 (by omega) (by omega)]
    rw [show (15 : Int).toNat = 15 from rfl, nat_mask4]
    omega
  rw [e1]
  obtain ⟨k, hk⟩ : ∃ k, k = v % 16 * 4096 := ⟨_, rfl⟩
  have hk0 : 0 ≤ k := by omega
  have hk1 : k < 65536 := by omega
  have hk2 : k % 4294967296 = k := by omega
  rw [← hk, hk2, u32_or _ _ hW0 hW1 hk0 (by omega), nat_join 16 W.toNat k.toNat (by simp only [Nat.reducePow]; omega) (by simp only [Nat.reducePow]; omega)]
  omega

set_option maxHeartbeats 1000000 in
theorem put_c (w0 w : World) (B C D : Nat) (o : Obj) (op a b c m W : Int) (x : Bool) (h : St w0 w B C D o op a b c m W x) (hW : W % 65536 = 0) (hW0 : 0 ≤ W) (hW1 : W < 4294967296) :
    Calls Tryd.prog 21 #[.pointer (some ⟨B, 3, none⟩), .int .i64 12, .int .i64 4, .bool false, .pointer (some ⟨C + 1, 0, none⟩), .pointer (some ⟨C, 0, none⟩)] w fun e w' =>
      e = .returned (.tuple #[]) ∧ St w0 w' B C D o op a b 0 m (W + c % 16 * 4096) (x || (decide (c < 0) || decide (16 ≤ c))) := by
  have c1 : w.cell? ⟨B, 3, none⟩ = some (.int .i64 c) := (cell_of_row w B 3 _ _ _ h.hi).trans rfl
  have cw := cell_of_one h.hw
  have cx := cell_of_one h.hx
  have f1 := frozen_of_row h.hi 3
  have fw := free_of_one h.hw
  have fx := free_of_one h.hx
  have h1 := h.lt
  have H := Lib.hid h
  have A := Lib.hid (ar_c W c hW hW0 hW1)
  clear h
  cases x with
  | true =>
    go_enter Tryd.func21, Tryd.ntmps21
    go_wp2
    go_quiet (fail)
    go_wp2
    skip
    skip
    go_region
    all_goals go_wp2
    go_end0
    exact ⟨rfl, H.out.put 3 _ _ _ _ _ rfl A.out rfl⟩
  | false =>
    go_enter Tryd.func21, Tryd.ntmps21
    go_wp2
    go_quiet (fail)
    go_wp2
    skip
    skip
    all_goals go_region
    all_goals go_wp2
    all_goals go_end0
    · exact ⟨rfl, H.out.put 3 _ _ _ _ _ rfl A.out (by simp)⟩
    · exact ⟨rfl, H.out.put 3 _ _ _ _ _ rfl A.out (by simp [*])⟩

theorem ar_i (W v : Int) (hW : W % 4096 = 0) (hW0 : 0 ≤ W) (hW1 : W < 4294967296) : bits .or .u32 W (bits .and .u32 (v % 4294967296) 4095 % 4294967296) = W + v % 4096 := by
  have hv0 : 0 ≤ v % 4294967296 := by omega
  have hv1 : v % 4294967296 < 4294967296 := by omega
  have e1 : bits .and .u32 (v % 4294967296) 4095 = v % 4096 := by
    rw [u32_and _ _ hv0 hv1 (by omega) (by omega)]
    rw [show (4095 : Int).toNat = 4095 from rfl, nat_mask12]
    omega
  rw [e1]
  obtain ⟨k, hk⟩ : ∃ k, k = v % 4096 := ⟨_, rfl⟩
  have hk0 : 0 ≤ k := by omega
  have hk1 : k < 4096 := by omega
  have hk2 : k % 4294967296 = k := by omega
  rw [← hk, hk2, u32_or _ _ hW0 hW1 hk0 (by omega), nat_join 12 W.toNat k.toNat (by simp only [Nat.reducePow]; omega) (by simp only [Nat.reducePow]; omega)]
  omega

set_option maxHeartbeats 1000000 in
theorem put_i (w0 w : World) (B C D : Nat) (o : Obj) (op a b c m W : Int) (x : Bool) (h : St w0 w B C D o op a b c m W x) (hW : W % 4096 = 0) (hW0 : 0 ≤ W) (hW1 : W < 4294967296) :
    Calls Tryd.prog 21 #[.pointer (some ⟨B, 4, none⟩), .int .i64 0, .int .i64 12, .bool true, .pointer (some ⟨C + 1, 0, none⟩), .pointer (some ⟨C, 0, none⟩)] w fun e w' =>
      e = .returned (.tuple #[]) ∧ St w0 w' B C D o op a b c 0 (W + m % 4096) (x || (decide (m < -2048) || decide (2048 ≤ m))) := by
  have c1 : w.cell? ⟨B, 4, none⟩ = some (.int .i64 m) := (cell_of_row w B 4 _ _ _ h.hi).trans rfl
  have cw := cell_of_one h.hw
  have cx := cell_of_one h.hx
  have f1 := frozen_of_row h.hi 4
  have fw := free_of_one h.hw
  have fx := free_of_one h.hx
  have h1 := h.lt
  have H := Lib.hid h
  have A := Lib.hid (ar_i W m hW hW0 hW1)
  clear h
  cases x with
  | true =>
    go_enter Tryd.func21, Tryd.ntmps21
    go_wp2
    go_quiet (fail)
    go_wp2
    go_quiet (fail)
    go_wp2
    go_region
    all_goals go_wp2
    go_end0
    exact ⟨rfl, H.out.put 4 _ _ _ _ _ rfl A.out rfl⟩
  | false =>
    go_enter Tryd.func21, Tryd.ntmps21
    go_wp2
    go_quiet (fail)
    go_wp2
    go_quiet (fail)
    go_wp2
    all_goals go_region
    all_goals go_wp2
    all_goals go_end0
    · exact ⟨rfl, H.out.put 4 _ _ _ _ _ rfl A.out (by simp)⟩
    · exact ⟨rfl, H.out.put 4 _ _ _ _ _ rfl A.out (by simp [*])⟩

theorem ar_j (W v : Int) (hW : W % 1048576 = 0) (hW0 : 0 ≤ W) (hW1 : W < 4294967296) : bits .or .u32 W (bits .and .u32 (v % 4294967296) 1048575 % 4294967296) = W + v % 1048576 := by
  have hv0 : 0 ≤ v % 4294967296 := by omega
  have hv1 : v % 4294967296 < 4294967296 := by omega
  have e1 : bits .and .u32 (v % 4294967296) 1048575 = v % 1048576 := by
    rw [u32_and _ _ hv0 hv1 (by omega) (by omega)]
    rw [show (1048575 : Int).toNat = 1048575 from rfl, nat_mask20]
    omega
  rw [e1]
  obtain ⟨k, hk⟩ : ∃ k, k = v % 1048576 := ⟨_, rfl⟩
  have hk0 : 0 ≤ k := by omega
  have hk1 : k < 1048576 := by omega
  have hk2 : k % 4294967296 = k := by omega
  rw [← hk, hk2, u32_or _ _ hW0 hW1 hk0 (by omega), nat_join 20 W.toNat k.toNat (by simp only [Nat.reducePow]; omega) (by simp only [Nat.reducePow]; omega)]
  omega

set_option maxHeartbeats 1000000 in
theorem put_j (w0 w : World) (B C D : Nat) (o : Obj) (op a b c m W : Int) (x : Bool) (h : St w0 w B C D o op a b c m W x) (hW : W % 1048576 = 0) (hW0 : 0 ≤ W) (hW1 : W < 4294967296) :
    Calls Tryd.prog 21 #[.pointer (some ⟨B, 4, none⟩), .int .i64 0, .int .i64 20, .bool true, .pointer (some ⟨C + 1, 0, none⟩), .pointer (some ⟨C, 0, none⟩)] w fun e w' =>
      e = .returned (.tuple #[]) ∧ St w0 w' B C D o op a b c 0 (W + m % 1048576) (x || (decide (m < -524288) || decide (524288 ≤ m))) := by
  have c1 : w.cell? ⟨B, 4, none⟩ = some (.int .i64 m) := (cell_of_row w B 4 _ _ _ h.hi).trans rfl
  have cw := cell_of_one h.hw
  have cx := cell_of_one h.hx
  have f1 := frozen_of_row h.hi 4
  have fw := free_of_one h.hw
  have fx := free_of_one h.hx
  have h1 := h.lt
  have H := Lib.hid h
  have A := Lib.hid (ar_j W m hW hW0 hW1)
  clear h
  cases x with
  | true =>
    go_enter Tryd.func21, Tryd.ntmps21
    go_wp2
    go_quiet (fail)
    go_wp2
    go_quiet (fail)
    go_wp2
    go_region
    all_goals go_wp2
    go_end0
    exact ⟨rfl, H.out.put 4 _ _ _ _ _ rfl A.out rfl⟩
  | false =>
    go_enter Tryd.func21, Tryd.ntmps21
    go_wp2
    go_quiet (fail)
    go_wp2
    go_quiet (fail)
    go_wp2
    all_goals go_region
    all_goals go_wp2
    all_goals go_end0
    · exact ⟨rfl, H.out.put 4 _ _ _ _ _ rfl A.out (by simp)⟩
    · exact ⟨rfl, H.out.put 4 _ _ _ _ _ rfl A.out (by simp [*])⟩
end Go.Proofs.YtoaneiidomdljaaDoor
