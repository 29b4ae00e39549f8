/- What isa.Encode answers, form by form (printed by gen-enc.py). -/
import Derived.Test.YtoaneiidomdljaaDoorPut
import Derived.LoopN
import Derived.Lib.OthersKept
namespace Go.Proofs.YtoaneiidomdljaaDoor
open Go.RowKit Go.Shelf

theorem St.nx {w0 w : World} {B C D : Nat} {S : ByteArray} {p : Nat} {op a b c m W : Int} {x : Bool} (h : St w0 w B C D (.stringIter S p) op a b c m W x) (p' : Nat) (I L : Int) (hI : (p : Int) = I) (hp' : p + 1 = p') (hp : p < S.size) (ha : (S[p]'hp).toNat < 128) (hL : ((S[p]'hp).toNat : Int) = L) :
    ∃ w' : World, (∀ ty, (Instr.next (.pointer (some ⟨D, 0, none⟩)) true ty).run Tryd.prog w = .ok (.tuple #[.bool true, .int .i64 I, .int .i32 L]) w') ∧ St w0 w' B C D (.stringIter S p') op a b c m W x := by
  subst hL hI hp'
  have h1 := h.lt
  have h2 := h.ltD
  have h3 := h.le
  refine ⟨w.iterAt D S (p + 1), fun ty => Lib.run_next_ascii_at w D S p ty h.it hp ha, h.lt, h.le, ?_, ?_, ?_, h.ltD, Lib.iterAt_heap _ _ _ _ _ h.it, Lib.below_iterAt h.bel (by omega) _ _⟩
  · rw [Lib.iterAt_other _ _ _ _ _ (by omega)]; exact h.hi
  · rw [Lib.iterAt_other _ _ _ _ _ (by omega)]; exact h.hw
  · rw [Lib.iterAt_other _ _ _ _ _ (by omega)]; exact h.hx

theorem St.nxe {w0 w : World} {B C D : Nat} {S : ByteArray} {p : Nat} {op a b c m W : Int} {x : Bool} (h : St w0 w B C D (.stringIter S p) op a b c m W x) (hp : ¬ p < S.size) :
    (∀ ty, (Instr.next (.pointer (some ⟨D, 0, none⟩)) true ty).run Tryd.prog w = .ok (.tuple #[.bool false]) w) ∧ w.cell? ⟨B, 0, none⟩ = some (.int .i64 op) ∧ w.cell? ⟨B, 1, none⟩ = some (.int .i64 a) ∧ w.cell? ⟨B, 2, none⟩ = some (.int .i64 b) ∧
      w.cell? ⟨B, 3, none⟩ = some (.int .i64 c) ∧ w.cell? ⟨B, 4, none⟩ = some (.int .i64 m) ∧ w.cell? ⟨C, 0, none⟩ = some (.int .u32 W) ∧ w.cell? ⟨C + 1, 0, none⟩ = some (.bool x) ∧ Below w0.heap.size w0 w :=
  ⟨fun ty => Lib.run_next_end_at w D S p ty h.it hp, (cell_of_row w B 0 _ _ _ h.hi).trans rfl, (cell_of_row w B 1 _ _ _ h.hi).trans rfl, (cell_of_row w B 2 _ _ _ h.hi).trans rfl, (cell_of_row w B 3 _ _ _ h.hi).trans rfl, (cell_of_row w B 4 _ _ _ h.hi).trans rfl, cell_of_one h.hw, cell_of_one h.hx, h.bel⟩

theorem name_st (w0 w : World) (h : Below w0.heap.size w0 w) (ht : Tab w0) (op a b c m : Int) (x : ByteArray) (hx : nm op = x) :
    Calls Tryd.prog 16 #[.int .i64 op] (w.alloc (.cells (insV op a b c m) 23)) fun e w' => e = .returned (.string x) ∧
      (w'.heap[w.heap.size]? = some (.cells (insV op a b c m) 23 (0, 0)) ∧ w'.cell? ⟨w.heap.size, 0, none⟩ = some (.int .i64 op) ∧ w.heap.size < w'.heap.size ∧ Below w0.heap.size w0 w') := by
  subst hx
  have h1 := h.alloc h.size (.cells (insV op a b c m) 23)
  refine (name_in _ _ (Below.refl _ _) (ht.below h1) op).mono ?_
  rintro e w' ⟨rfl, hb⟩
  have hs : (w.alloc (.cells (insV op a b c m) 23)).heap.size = w.heap.size + 1 := World.size_alloc _ _
  have hi : w'.heap[w.heap.size]? = some (.cells (insV op a b c m) 23 (0, 0)) := by rw [hb.block _ (by omega)]; exact heap_alloc_new _ _
  exact ⟨rfl, hi, (cell_of_row w' _ 0 _ _ _ hi).trans rfl, lt_of_block hi, h1.trans (hb.mono h1.size)⟩

theorem form_st (w0 w1 : World) (B : Nat) (op a b c m W : Int) (hB : w0.heap.size ≤ B) (hi : w1.heap[B]? = some (.cells (insV op a b c m) 23 (0, 0))) (hb : Below w0.heap.size w0 w1) (ht : Tab w0) (x : ByteArray) (hx : fm op = x) :
    Calls Tryd.prog 15 #[.int .i64 op] ((w1.alloc (.cells #[.int .u32 W] 24)).alloc (.cells #[.bool false] 4)) fun e w' => e = .returned (.string x) ∧ St w0 (w'.iter x 0) B w1.heap.size w'.heap.size (.stringIter x 0) op a b c m W false := by
  subst hx
  have hs : (w1.alloc (.cells #[.int .u32 W] 24)).heap.size = w1.heap.size + 1 := World.size_alloc _ _
  have hs2 : ((w1.alloc (.cells #[.int .u32 W] 24)).alloc (.cells #[.bool false] 4)).heap.size = w1.heap.size + 1 + 1 := by rw [World.size_alloc, hs]
  have hlt := lt_of_block hi
  have hbb : Below w0.heap.size w0 ((w1.alloc (.cells #[.int .u32 W] 24)).alloc (.cells #[.bool false] 4)) := (hb.alloc hb.size _).alloc (by have := hb.size; omega) _
  refine (form_in _ _ (Below.refl _ _) (ht.below hbb) op).mono ?_
  rintro e w' ⟨rfl, hb'⟩
  have hsz := hb'.size
  refine ⟨rfl, hlt, hB, ?_, ?_, ?_, by omega, heap_alloc_new _ _, (hbb.trans (hb'.mono hbb.size)).alloc (by have := hbb.size; omega) _⟩
  · show (w'.alloc _).heap[B]? = _
    rw [Below.heap_alloc _ _ _ (by omega), hb'.block _ (by omega), Below.heap_alloc _ _ _ (by omega), Below.heap_alloc _ _ _ hlt]; exact hi
  · show (w'.alloc _).heap[w1.heap.size]? = _
    rw [Below.heap_alloc _ _ _ (by omega), hb'.block _ (by omega), Below.heap_alloc _ _ _ (by omega)]; exact heap_alloc_new _ _
  · show (w'.alloc _).heap[w1.heap.size + 1]? = _
    rw [Below.heap_alloc _ _ _ (by omega), hb'.block _ (by omega), ← hs]; exact heap_alloc_new _ _


set_option maxHeartbeats 4000000 in
theorem enc_ai (w0 w : World) (h : Below w0.heap.size w0 w) (ht : Tab w0) (op a b c m : Int) (ho : 1 ≤ op) (ho2 : op ≤ 53) (x : ByteArray) (hx : nm op = x) (hx1 : x.toList.isEmpty = false) (hf : fm op = ⟨#[97, 105]⟩) :
    Calls Tryd.prog 10 #[.agg (insV op a b c m)] w fun e w' => e = .returned (.tuple #[.int .u32 (if (0 ≤ a ∧ a < 16) ∧ b = 0 ∧ c = 0 ∧ (-2048 ≤ m ∧ m < 2048) then op * 16777216 + a % 16 * 1048576 + m % 4096 else 0), .int .i64 (if (0 ≤ a ∧ a < 16) ∧ b = 0 ∧ c = 0 ∧ (-2048 ≤ m ∧ m < 2048) then 0 else 2)]) ∧ Below w0.heap.size w0 w' := by
  go_enter Tryd.func10, Tryd.ntmps10
  go_wp2_with fail
  refine (name_st w0 w h ht op a b c m x hx).mono ?_
  rintro e w1 ⟨rfl, hi1, hc1, hl1, hb1⟩
  go_wp2_with fail
  refine (form_st w0 _ w.heap.size op a b c m _ h.size hi1 hb1 ht _ hf).mono ?_
  rintro e w2 ⟨rfl, hs0⟩
  obtain ⟨v0, hn0, hs0n⟩ := hs0.nx 1 0 97 rfl rfl (by decide) (by decide) (by decide)
  go_wp2_with fail
  refine wp_loop_rounds 3 ?_
  rw [rounds_succ]
  go_wp2_with fail
  refine (put_a w0 _ _ _ _ _ _ _ _ _ _ _ _ hs0n (by omega) (by omega) (by omega)).mono ?_
  rintro e w3 ⟨rfl, hs1⟩
  obtain ⟨v1, hn1, hs1n⟩ := hs1.nx 2 1 105 rfl rfl (by decide) (by decide) (by decide)
  go_wp2_with fail
  rw [rounds_succ]
  go_wp2_with fail
  refine (put_i w0 _ _ _ _ _ _ _ _ _ _ _ _ hs1n (by omega) (by omega) (by omega)).mono ?_
  rintro e w4 ⟨rfl, hs2⟩
  obtain ⟨hn2, k0, k1, k2, k3, k4, kw, kx, kb⟩ := hs2.nxe (by decide)
  go_wp2_with fail
  rw [rounds_succ]
  go_wp2_with fail
  all_goals go_ret2
  all_goals first
    | exact ⟨rfl, kb⟩
    | exact ⟨by (first | rw [if_pos (by omega), if_pos (by omega)] | rw [if_pos (by omega)]); rfl, kb⟩
    | exact ⟨by (first | rw [if_neg (by omega), if_neg (by omega)] | rw [if_neg (by omega)]); rfl, kb⟩

set_option maxHeartbeats 4000000 in
theorem enc_aj (w0 w : World) (h : Below w0.heap.size w0 w) (ht : Tab w0) (op a b c m : Int) (ho : 1 ≤ op) (ho2 : op ≤ 53) (x : ByteArray) (hx : nm op = x) (hx1 : x.toList.isEmpty = false) (hf : fm op = ⟨#[97, 106]⟩) :
    Calls Tryd.prog 10 #[.agg (insV op a b c m)] w fun e w' => e = .returned (.tuple #[.int .u32 (if (0 ≤ a ∧ a < 16) ∧ b = 0 ∧ c = 0 ∧ (-524288 ≤ m ∧ m < 524288) then op * 16777216 + a % 16 * 1048576 + m % 1048576 else 0), .int .i64 (if (0 ≤ a ∧ a < 16) ∧ b = 0 ∧ c = 0 ∧ (-524288 ≤ m ∧ m < 524288) then 0 else 2)]) ∧ Below w0.heap.size w0 w' := by
  go_enter Tryd.func10, Tryd.ntmps10
  go_wp2_with fail
  refine (name_st w0 w h ht op a b c m x hx).mono ?_
  rintro e w1 ⟨rfl, hi1, hc1, hl1, hb1⟩
  go_wp2_with fail
  refine (form_st w0 _ w.heap.size op a b c m _ h.size hi1 hb1 ht _ hf).mono ?_
  rintro e w2 ⟨rfl, hs0⟩
  obtain ⟨v0, hn0, hs0n⟩ := hs0.nx 1 0 97 rfl rfl (by decide) (by decide) (by decide)
  go_wp2_with fail
  refine wp_loop_rounds 3 ?_
  rw [rounds_succ]
  go_wp2_with fail
  refine (put_a w0 _ _ _ _ _ _ _ _ _ _ _ _ hs0n (by omega) (by omega) (by omega)).mono ?_
  rintro e w3 ⟨rfl, hs1⟩
  obtain ⟨v1, hn1, hs1n⟩ := hs1.nx 2 1 106 rfl rfl (by decide) (by decide) (by decide)
  go_wp2_with fail
  rw [rounds_succ]
  go_wp2_with fail
  refine (put_j w0 _ _ _ _ _ _ _ _ _ _ _ _ hs1n (by omega) (by omega) (by omega)).mono ?_
  rintro e w4 ⟨rfl, hs2⟩
  obtain ⟨hn2, k0, k1, k2, k3, k4, kw, kx, kb⟩ := hs2.nxe (by decide)
  go_wp2_with fail
  rw [rounds_succ]
  go_wp2_with fail
  all_goals go_ret2
  all_goals first
    | exact ⟨rfl, kb⟩
    | exact ⟨by (first | rw [if_pos (by omega), if_pos (by omega)] | rw [if_pos (by omega)]); rfl, kb⟩
    | exact ⟨by (first | rw [if_neg (by omega), if_neg (by omega)] | rw [if_neg (by omega)]); rfl, kb⟩

set_option maxHeartbeats 4000000 in
theorem enc_abc (w0 w : World) (h : Below w0.heap.size w0 w) (ht : Tab w0) (op a b c m : Int) (ho : 1 ≤ op) (ho2 : op ≤ 53) (x : ByteArray) (hx : nm op = x) (hx1 : x.toList.isEmpty = false) (hf : fm op = ⟨#[97, 98, 99]⟩) :
    Calls Tryd.prog 10 #[.agg (insV op a b c m)] w fun e w' => e = .returned (.tuple #[.int .u32 (if (0 ≤ a ∧ a < 16) ∧ (0 ≤ b ∧ b < 16) ∧ (0 ≤ c ∧ c < 16) ∧ m = 0 then op * 16777216 + a % 16 * 1048576 + b % 16 * 65536 + c % 16 * 4096 else 0), .int .i64 (if (0 ≤ a ∧ a < 16) ∧ (0 ≤ b ∧ b < 16) ∧ (0 ≤ c ∧ c < 16) ∧ m = 0 then 0 else 2)]) ∧ Below w0.heap.size w0 w' := by
  go_enter Tryd.func10, Tryd.ntmps10
  go_wp2_with fail
  refine (name_st w0 w h ht op a b c m x hx).mono ?_
  rintro e w1 ⟨rfl, hi1, hc1, hl1, hb1⟩
  go_wp2_with fail
  refine (form_st w0 _ w.heap.size op a b c m _ h.size hi1 hb1 ht _ hf).mono ?_
  rintro e w2 ⟨rfl, hs0⟩
  obtain ⟨v0, hn0, hs0n⟩ := hs0.nx 1 0 97 rfl rfl (by decide) (by decide) (by decide)
  go_wp2_with fail
  refine wp_loop_rounds 4 ?_
  rw [rounds_succ]
  go_wp2_with fail
  refine (put_a w0 _ _ _ _ _ _ _ _ _ _ _ _ hs0n (by omega) (by omega) (by omega)).mono ?_
  rintro e w3 ⟨rfl, hs1⟩
  obtain ⟨v1, hn1, hs1n⟩ := hs1.nx 2 1 98 rfl rfl (by decide) (by decide) (by decide)
  go_wp2_with fail
  rw [rounds_succ]
  go_wp2_with fail
  refine (put_b w0 _ _ _ _ _ _ _ _ _ _ _ _ hs1n (by omega) (by omega) (by omega)).mono ?_
  rintro e w4 ⟨rfl, hs2⟩
  obtain ⟨v2, hn2, hs2n⟩ := hs2.nx 3 2 99 rfl rfl (by decide) (by decide) (by decide)
  go_wp2_with fail
  rw [rounds_succ]
  go_wp2_with fail
  refine (put_c w0 _ _ _ _ _ _ _ _ _ _ _ _ hs2n (by omega) (by omega) (by omega)).mono ?_
  rintro e w5 ⟨rfl, hs3⟩
  obtain ⟨hn3, k0, k1, k2, k3, k4, kw, kx, kb⟩ := hs3.nxe (by decide)
  go_wp2_with fail
  rw [rounds_succ]
  go_wp2_with fail
  all_goals go_ret2
  all_goals first
    | exact ⟨rfl, kb⟩
    | exact ⟨by (first | rw [if_pos (by omega), if_pos (by omega)] | rw [if_pos (by omega)]); rfl, kb⟩
    | exact ⟨by (first | rw [if_neg (by omega), if_neg (by omega)] | rw [if_neg (by omega)]); rfl, kb⟩

set_option maxHeartbeats 4000000 in
theorem enc_abi (w0 w : World) (h : Below w0.heap.size w0 w) (ht : Tab w0) (op a b c m : Int) (ho : 1 ≤ op) (ho2 : op ≤ 53) (x : ByteArray) (hx : nm op = x) (hx1 : x.toList.isEmpty = false) (hf : fm op = ⟨#[97, 98, 105]⟩) :
    Calls Tryd.prog 10 #[.agg (insV op a b c m)] w fun e w' => e = .returned (.tuple #[.int .u32 (if (0 ≤ a ∧ a < 16) ∧ (0 ≤ b ∧ b < 16) ∧ c = 0 ∧ (-2048 ≤ m ∧ m < 2048) then op * 16777216 + a % 16 * 1048576 + b % 16 * 65536 + m % 4096 else 0), .int .i64 (if (0 ≤ a ∧ a < 16) ∧ (0 ≤ b ∧ b < 16) ∧ c = 0 ∧ (-2048 ≤ m ∧ m < 2048) then 0 else 2)]) ∧ Below w0.heap.size w0 w' := by
  go_enter Tryd.func10, Tryd.ntmps10
  go_wp2_with fail
  refine (name_st w0 w h ht op a b c m x hx).mono ?_
  rintro e w1 ⟨rfl, hi1, hc1, hl1, hb1⟩
  go_wp2_with fail
  refine (form_st w0 _ w.heap.size op a b c m _ h.size hi1 hb1 ht _ hf).mono ?_
  rintro e w2 ⟨rfl, hs0⟩
  obtain ⟨v0, hn0, hs0n⟩ := hs0.nx 1 0 97 rfl rfl (by decide) (by decide) (by decide)
  go_wp2_with fail
  refine wp_loop_rounds 4 ?_
  rw [rounds_succ]
  go_wp2_with fail
  refine (put_a w0 _ _ _ _ _ _ _ _ _ _ _ _ hs0n (by omega) (by omega) (by omega)).mono ?_
  rintro e w3 ⟨rfl, hs1⟩
  obtain ⟨v1, hn1, hs1n⟩ := hs1.nx 2 1 98 rfl rfl (by decide) (by decide) (by decide)
  go_wp2_with fail
  rw [rounds_succ]
  go_wp2_with fail
  refine (put_b w0 _ _ _ _ _ _ _ _ _ _ _ _ hs1n (by omega) (by omega) (by omega)).mono ?_
  rintro e w4 ⟨rfl, hs2⟩
  obtain ⟨v2, hn2, hs2n⟩ := hs2.nx 3 2 105 rfl rfl (by decide) (by decide) (by decide)
  go_wp2_with fail
  rw [rounds_succ]
  go_wp2_with fail
  refine (put_i w0 _ _ _ _ _ _ _ _ _ _ _ _ hs2n (by omega) (by omega) (by omega)).mono ?_
  rintro e w5 ⟨rfl, hs3⟩
  obtain ⟨hn3, k0, k1, k2, k3, k4, kw, kx, kb⟩ := hs3.nxe (by decide)
  go_wp2_with fail
  rw [rounds_succ]
  go_wp2_with fail
  all_goals go_ret2
  all_goals first
    | exact ⟨rfl, kb⟩
    | exact ⟨by (first | rw [if_pos (by omega), if_pos (by omega)] | rw [if_pos (by omega)]); rfl, kb⟩
    | exact ⟨by (first | rw [if_neg (by omega), if_neg (by omega)] | rw [if_neg (by omega)]); rfl, kb⟩

set_option maxHeartbeats 4000000 in
theorem enc_ab (w0 w : World) (h : Below w0.heap.size w0 w) (ht : Tab w0) (op a b c m : Int) (ho : 1 ≤ op) (ho2 : op ≤ 53) (x : ByteArray) (hx : nm op = x) (hx1 : x.toList.isEmpty = false) (hf : fm op = ⟨#[97, 98]⟩) :
    Calls Tryd.prog 10 #[.agg (insV op a b c m)] w fun e w' => e = .returned (.tuple #[.int .u32 (if (0 ≤ a ∧ a < 16) ∧ (0 ≤ b ∧ b < 16) ∧ c = 0 ∧ m = 0 then op * 16777216 + a % 16 * 1048576 + b % 16 * 65536 else 0), .int .i64 (if (0 ≤ a ∧ a < 16) ∧ (0 ≤ b ∧ b < 16) ∧ c = 0 ∧ m = 0 then 0 else 2)]) ∧ Below w0.heap.size w0 w' := by
  go_enter Tryd.func10, Tryd.ntmps10
  go_wp2_with fail
  refine (name_st w0 w h ht op a b c m x hx).mono ?_
  rintro e w1 ⟨rfl, hi1, hc1, hl1, hb1⟩
  go_wp2_with fail
  refine (form_st w0 _ w.heap.size op a b c m _ h.size hi1 hb1 ht _ hf).mono ?_
  rintro e w2 ⟨rfl, hs0⟩
  obtain ⟨v0, hn0, hs0n⟩ := hs0.nx 1 0 97 rfl rfl (by decide) (by decide) (by decide)
  go_wp2_with fail
  refine wp_loop_rounds 3 ?_
  rw [rounds_succ]
  go_wp2_with fail
  refine (put_a w0 _ _ _ _ _ _ _ _ _ _ _ _ hs0n (by omega) (by omega) (by omega)).mono ?_
  rintro e w3 ⟨rfl, hs1⟩
  obtain ⟨v1, hn1, hs1n⟩ := hs1.nx 2 1 98 rfl rfl (by decide) (by decide) (by decide)
  go_wp2_with fail
  rw [rounds_succ]
  go_wp2_with fail
  refine (put_b w0 _ _ _ _ _ _ _ _ _ _ _ _ hs1n (by omega) (by omega) (by omega)).mono ?_
  rintro e w4 ⟨rfl, hs2⟩
  obtain ⟨hn2, k0, k1, k2, k3, k4, kw, kx, kb⟩ := hs2.nxe (by decide)
  go_wp2_with fail
  rw [rounds_succ]
  go_wp2_with fail
  all_goals go_ret2
  all_goals first
    | exact ⟨rfl, kb⟩
    | exact ⟨by (first | rw [if_pos (by omega), if_pos (by omega)] | rw [if_pos (by omega)]); rfl, kb⟩
    | exact ⟨by (first | rw [if_neg (by omega), if_neg (by omega)] | rw [if_neg (by omega)]); rfl, kb⟩

set_option maxHeartbeats 4000000 in
theorem enc_0 (w0 w : World) (h : Below w0.heap.size w0 w) (ht : Tab w0) (op a b c m : Int) (ho : 1 ≤ op) (ho2 : op ≤ 53) (x : ByteArray) (hx : nm op = x) (hx1 : x.toList.isEmpty = false) (hf : fm op = ⟨#[]⟩) :
    Calls Tryd.prog 10 #[.agg (insV op a b c m)] w fun e w' => e = .returned (.tuple #[.int .u32 (if a = 0 ∧ b = 0 ∧ c = 0 ∧ m = 0 then op * 16777216 else 0), .int .i64 (if a = 0 ∧ b = 0 ∧ c = 0 ∧ m = 0 then 0 else 2)]) ∧ Below w0.heap.size w0 w' := by
  go_enter Tryd.func10, Tryd.ntmps10
  go_wp2_with fail
  refine (name_st w0 w h ht op a b c m x hx).mono ?_
  rintro e w1 ⟨rfl, hi1, hc1, hl1, hb1⟩
  go_wp2_with fail
  refine (form_st w0 _ w.heap.size op a b c m _ h.size hi1 hb1 ht _ hf).mono ?_
  rintro e w2 ⟨rfl, hs0⟩
  obtain ⟨hn0, k0, k1, k2, k3, k4, kw, kx, kb⟩ := hs0.nxe (by decide)
  go_wp2_with fail
  refine wp_loop_rounds 1 ?_
  rw [rounds_succ]
  go_wp2_with fail
  all_goals go_ret2
  all_goals first
    | exact ⟨rfl, kb⟩
    | exact ⟨by (first | rw [if_pos (by omega), if_pos (by omega)] | rw [if_pos (by omega)]); rfl, kb⟩
    | exact ⟨by (first | rw [if_neg (by omega), if_neg (by omega)] | rw [if_neg (by omega)]); rfl, kb⟩

set_option maxHeartbeats 4000000 in
theorem enc_i (w0 w : World) (h : Below w0.heap.size w0 w) (ht : Tab w0) (op a b c m : Int) (ho : 1 ≤ op) (ho2 : op ≤ 53) (x : ByteArray) (hx : nm op = x) (hx1 : x.toList.isEmpty = false) (hf : fm op = ⟨#[105]⟩) :
    Calls Tryd.prog 10 #[.agg (insV op a b c m)] w fun e w' => e = .returned (.tuple #[.int .u32 (if a = 0 ∧ b = 0 ∧ c = 0 ∧ (-2048 ≤ m ∧ m < 2048) then op * 16777216 + m % 4096 else 0), .int .i64 (if a = 0 ∧ b = 0 ∧ c = 0 ∧ (-2048 ≤ m ∧ m < 2048) then 0 else 2)]) ∧ Below w0.heap.size w0 w' := by
  go_enter Tryd.func10, Tryd.ntmps10
  go_wp2_with fail
  refine (name_st w0 w h ht op a b c m x hx).mono ?_
  rintro e w1 ⟨rfl, hi1, hc1, hl1, hb1⟩
  go_wp2_with fail
  refine (form_st w0 _ w.heap.size op a b c m _ h.size hi1 hb1 ht _ hf).mono ?_
  rintro e w2 ⟨rfl, hs0⟩
  obtain ⟨v0, hn0, hs0n⟩ := hs0.nx 1 0 105 rfl rfl (by decide) (by decide) (by decide)
  go_wp2_with fail
  refine wp_loop_rounds 2 ?_
  rw [rounds_succ]
  go_wp2_with fail
  refine (put_i w0 _ _ _ _ _ _ _ _ _ _ _ _ hs0n (by omega) (by omega) (by omega)).mono ?_
  rintro e w3 ⟨rfl, hs1⟩
  obtain ⟨hn1, k0, k1, k2, k3, k4, kw, kx, kb⟩ := hs1.nxe (by decide)
  go_wp2_with fail
  rw [rounds_succ]
  go_wp2_with fail
  all_goals go_ret2
  all_goals first
    | exact ⟨rfl, kb⟩
    | exact ⟨by (first | rw [if_pos (by omega), if_pos (by omega)] | rw [if_pos (by omega)]); rfl, kb⟩
    | exact ⟨by (first | rw [if_neg (by omega), if_neg (by omega)] | rw [if_neg (by omega)]); rfl, kb⟩
end Go.Proofs.YtoaneiidomdljaaDoor
