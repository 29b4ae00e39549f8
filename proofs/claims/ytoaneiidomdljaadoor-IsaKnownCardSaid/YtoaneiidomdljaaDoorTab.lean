/- The table of names and forms (printed by gen-tab.py); what isa.of, isa.Name, isa.Form and the document's Name and Form answer for any number. -/
import Derived.Test.YtoaneiidomdljaaDoorRows
import Derived.WalkKit
import Derived.WalkLawsBesides
import Derived.Shelf.Abstract
import Derived.Lib.Hide
import Derived.BigQuiet
import Derived.Below
namespace Go.Proofs.YtoaneiidomdljaaDoor
open Go.RowKit Go.Shelf

def tabL : List (Array UInt8 × Array UInt8) := [(#[], #[]), (#[108, 105], #[97, 105]), (#[108, 117, 105], #[97, 106]), (#[97, 100, 100], #[97, 98, 99]), (#[115, 117, 98], #[97, 98, 99]), (#[109, 117, 108], #[97, 98, 99]), (#[100, 105, 118], #[97, 98, 99]), (#[114, 101, 109], #[97, 98, 99]), (#[97, 110, 100], #[97, 98, 99]), (#[111, 114], #[97, 98, 99]), (#[120, 111, 114], #[97, 98, 99]), (#[115, 104, 108], #[97, 98, 99]), (#[115, 104, 114], #[97, 98, 99]), (#[108, 116], #[97, 98, 99]), (#[108, 116, 117], #[97, 98, 99]), (#[101, 113], #[97, 98, 99]), (#[97, 100, 100, 105], #[97, 98, 105]), (#[108, 98], #[97, 98, 105]), (#[108, 104], #[97, 98, 105]), (#[108, 119], #[97, 98, 105]), (#[115, 98], #[97, 98, 105]), (#[115, 104], #[97, 98, 105]), (#[115, 119], #[97, 98, 105]), (#[108, 99], #[97, 98, 105]), (#[115, 99], #[97, 98, 105]), (#[98, 101, 113], #[97, 98, 105]), (#[98, 110, 101], #[97, 98, 105]), (#[98, 108, 116], #[97, 98, 105]), (#[98, 103, 101], #[97, 98, 105]), (#[106, 97, 108], #[97, 106]), (#[106, 97, 108, 114], #[97, 98]), (#[109, 111, 118, 101], #[97, 98]), (#[105, 110, 99], #[97, 98, 99]), (#[105, 110, 99, 105], #[97, 98, 105]), (#[97, 100, 100, 114], #[97, 98, 99]), (#[115, 101, 116], #[97, 98, 99]), (#[101, 120, 97, 99, 116], #[97, 98, 99]), (#[97, 110, 100, 115], #[97, 98, 99]), (#[115, 101, 97, 108], #[97, 98, 99]), (#[111, 112, 101, 110], #[97, 98, 99]), (#[98, 117, 105, 108, 100], #[97, 98, 99]), (#[99, 108, 101, 97, 114], #[97, 98]), (#[103, 97, 100, 100, 114], #[97, 98]), (#[103, 98, 97, 115, 101], #[97, 98]), (#[103, 108, 101, 110], #[97, 98]), (#[103, 112, 101, 114, 109], #[97, 98]), (#[103, 116, 121, 112, 101], #[97, 98]), (#[103, 116, 97, 103], #[97, 98]), (#[105, 115, 105, 110, 116], #[97, 98]), (#[112, 99], #[97, 106]), (#[99, 97, 108, 108], #[97, 98]), (#[114, 101, 116], #[]), (#[101, 99, 97, 108, 108], #[105]), (#[116, 114, 97, 112], #[])]
def nmN (k : Nat) : ByteArray := ⟨(tabL.getD k (#[], #[])).1⟩
def fmN (k : Nat) : ByteArray := ⟨(tabL.getD k (#[], #[])).2⟩
/-- the name and the form of a number -/
def nm (op : Int) : ByteArray := if 0 ≤ op ∧ op ≤ 53 then nmN op.toNat else ⟨#[]⟩
def fm (op : Int) : ByteArray := if 0 ≤ op ∧ op ≤ 53 then fmN op.toNat else ⟨#[]⟩

def tabCs : Array Value := (tabL.flatMap fun r => [Value.string ⟨r.1⟩, Value.string ⟨r.2⟩]).toArray
theorem cs_at : ∀ k : Nat, k < 54 → tabCs[k * 2]? = some (.string (nmN k)) ∧ tabCs[k * 2 + 1]? = some (.string (fmN k))
  | 0, _ => ⟨rfl, rfl⟩
  | 1, _ => ⟨rfl, rfl⟩
  | 2, _ => ⟨rfl, rfl⟩
  | 3, _ => ⟨rfl, rfl⟩
  | 4, _ => ⟨rfl, rfl⟩
  | 5, _ => ⟨rfl, rfl⟩
  | 6, _ => ⟨rfl, rfl⟩
  | 7, _ => ⟨rfl, rfl⟩
  | 8, _ => ⟨rfl, rfl⟩
  | 9, _ => ⟨rfl, rfl⟩
  | 10, _ => ⟨rfl, rfl⟩
  | 11, _ => ⟨rfl, rfl⟩
  | 12, _ => ⟨rfl, rfl⟩
  | 13, _ => ⟨rfl, rfl⟩
  | 14, _ => ⟨rfl, rfl⟩
  | 15, _ => ⟨rfl, rfl⟩
  | 16, _ => ⟨rfl, rfl⟩
  | 17, _ => ⟨rfl, rfl⟩
  | 18, _ => ⟨rfl, rfl⟩
  | 19, _ => ⟨rfl, rfl⟩
  | 20, _ => ⟨rfl, rfl⟩
  | 21, _ => ⟨rfl, rfl⟩
  | 22, _ => ⟨rfl, rfl⟩
  | 23, _ => ⟨rfl, rfl⟩
  | 24, _ => ⟨rfl, rfl⟩
  | 25, _ => ⟨rfl, rfl⟩
  | 26, _ => ⟨rfl, rfl⟩
  | 27, _ => ⟨rfl, rfl⟩
  | 28, _ => ⟨rfl, rfl⟩
  | 29, _ => ⟨rfl, rfl⟩
  | 30, _ => ⟨rfl, rfl⟩
  | 31, _ => ⟨rfl, rfl⟩
  | 32, _ => ⟨rfl, rfl⟩
  | 33, _ => ⟨rfl, rfl⟩
  | 34, _ => ⟨rfl, rfl⟩
  | 35, _ => ⟨rfl, rfl⟩
  | 36, _ => ⟨rfl, rfl⟩
  | 37, _ => ⟨rfl, rfl⟩
  | 38, _ => ⟨rfl, rfl⟩
  | 39, _ => ⟨rfl, rfl⟩
  | 40, _ => ⟨rfl, rfl⟩
  | 41, _ => ⟨rfl, rfl⟩
  | 42, _ => ⟨rfl, rfl⟩
  | 43, _ => ⟨rfl, rfl⟩
  | 44, _ => ⟨rfl, rfl⟩
  | 45, _ => ⟨rfl, rfl⟩
  | 46, _ => ⟨rfl, rfl⟩
  | 47, _ => ⟨rfl, rfl⟩
  | 48, _ => ⟨rfl, rfl⟩
  | 49, _ => ⟨rfl, rfl⟩
  | 50, _ => ⟨rfl, rfl⟩
  | 51, _ => ⟨rfl, rfl⟩
  | 52, _ => ⟨rfl, rfl⟩
  | 53, _ => ⟨rfl, rfl⟩
  | k + 54, h => by omega
theorem ix_at : ∀ k : Nat, k < 54 → ∀ w : World, (Instr.index 48 (.agg tabCs) (.int .i64 (k : Int))).run Tryd.prog w = .ok (.agg #[.string (nmN k), .string (fmN k)]) w
  | 0, _ => fun _ => by kernel_rfl
  | 1, _ => fun _ => by kernel_rfl
  | 2, _ => fun _ => by kernel_rfl
  | 3, _ => fun _ => by kernel_rfl
  | 4, _ => fun _ => by kernel_rfl
  | 5, _ => fun _ => by kernel_rfl
  | 6, _ => fun _ => by kernel_rfl
  | 7, _ => fun _ => by kernel_rfl
  | 8, _ => fun _ => by kernel_rfl
  | 9, _ => fun _ => by kernel_rfl
  | 10, _ => fun _ => by kernel_rfl
  | 11, _ => fun _ => by kernel_rfl
  | 12, _ => fun _ => by kernel_rfl
  | 13, _ => fun _ => by kernel_rfl
  | 14, _ => fun _ => by kernel_rfl
  | 15, _ => fun _ => by kernel_rfl
  | 16, _ => fun _ => by kernel_rfl
  | 17, _ => fun _ => by kernel_rfl
  | 18, _ => fun _ => by kernel_rfl
  | 19, _ => fun _ => by kernel_rfl
  | 20, _ => fun _ => by kernel_rfl
  | 21, _ => fun _ => by kernel_rfl
  | 22, _ => fun _ => by kernel_rfl
  | 23, _ => fun _ => by kernel_rfl
  | 24, _ => fun _ => by kernel_rfl
  | 25, _ => fun _ => by kernel_rfl
  | 26, _ => fun _ => by kernel_rfl
  | 27, _ => fun _ => by kernel_rfl
  | 28, _ => fun _ => by kernel_rfl
  | 29, _ => fun _ => by kernel_rfl
  | 30, _ => fun _ => by kernel_rfl
  | 31, _ => fun _ => by kernel_rfl
  | 32, _ => fun _ => by kernel_rfl
  | 33, _ => fun _ => by kernel_rfl
  | 34, _ => fun _ => by kernel_rfl
  | 35, _ => fun _ => by kernel_rfl
  | 36, _ => fun _ => by kernel_rfl
  | 37, _ => fun _ => by kernel_rfl
  | 38, _ => fun _ => by kernel_rfl
  | 39, _ => fun _ => by kernel_rfl
  | 40, _ => fun _ => by kernel_rfl
  | 41, _ => fun _ => by kernel_rfl
  | 42, _ => fun _ => by kernel_rfl
  | 43, _ => fun _ => by kernel_rfl
  | 44, _ => fun _ => by kernel_rfl
  | 45, _ => fun _ => by kernel_rfl
  | 46, _ => fun _ => by kernel_rfl
  | 47, _ => fun _ => by kernel_rfl
  | 48, _ => fun _ => by kernel_rfl
  | 49, _ => fun _ => by kernel_rfl
  | 50, _ => fun _ => by kernel_rfl
  | 51, _ => fun _ => by kernel_rfl
  | 52, _ => fun _ => by kernel_rfl
  | 53, _ => fun _ => by kernel_rfl
  | k + 54, h => by omega

/-- the table lies in the world -/
def Tab (w : World) : Prop := 0 < w.heap.size ∧ ∃ t fr, w.heap[0]? = some (.cells tabCs t fr)
theorem Tab.below {w w' : World} (h : Tab w) (hb : Below w.heap.size w w') : Tab w' := by
  obtain ⟨h0, t, fr, h1⟩ := h
  exact ⟨Nat.lt_of_lt_of_le h0 hb.size, t, fr, by rw [hb.block 0 h0]; exact h1⟩
theorem Tab.cell {w : World} (h : Tab w) (k : Nat) (hk : k < 54) : w.cell? ⟨0, k * 2, none⟩ = some (.string (nmN k)) ∧ w.cell? ⟨0, k * 2 + 1, none⟩ = some (.string (fmN k)) := by
  obtain ⟨_, t, fr, h1⟩ := h
  obtain ⟨e1, e2⟩ := cs_at k hk
  exact ⟨(cell_of_row w 0 _ _ t fr h1).trans e1, (cell_of_row w 0 _ _ t fr h1).trans e2⟩

theorem nm_out {op : Int} (h : ¬ (0 ≤ op ∧ op ≤ 53)) : nm op = ⟨#[]⟩ := by unfold nm; rw [if_neg h]
theorem fm_out {op : Int} (h : ¬ (0 ≤ op ∧ op ≤ 53)) : fm op = ⟨#[]⟩ := by unfold fm; rw [if_neg h]
theorem nm_nat {k : Nat} (h : k < 54) : nm (k : Int) = nmN k := by unfold nm; rw [if_pos (by omega)]; rfl
theorem fm_nat {k : Nat} (h : k < 54) : fm (k : Int) = fmN k := by unfold fm; rw [if_pos (by omega)]; rfl


set_option maxHeartbeats 1000000 in
theorem of_in (w0 w : World) (h : Below w0.heap.size w0 w) (ht : Tab w0) (op : Int) :
    Calls Tryd.prog 26 #[.int .i64 op] w fun e w' => e = .returned (.agg #[.string (nm op), .string (fm op)]) ∧ Below w0.heap.size w0 w' := by
  have hw := ht.below h
  by_cases h1 : op < 0
  · rw [nm_out (by omega), fm_out (by omega)]
    go_enter Tryd.func26, Tryd.ntmps26
    go_wp2
    refine bodyPost_ret (v := .agg #[.string ⟨#[]⟩, .string ⟨#[]⟩]) (by simp [results, Tryd.results26, go_sem]) rfl ⟨rfl, ?_⟩
    exact h.alloc h.size _
  by_cases h2 : 53 < op
  · rw [nm_out (by omega), fm_out (by omega)]
    go_enter Tryd.func26, Tryd.ntmps26
    go_wp2
    refine bodyPost_ret (v := .agg #[.string ⟨#[]⟩, .string ⟨#[]⟩]) (by simp [results, Tryd.results26, go_sem]) rfl ⟨rfl, ?_⟩
    exact h.alloc h.size _
  obtain ⟨k, rfl⟩ : ∃ k : Nat, op = k := ⟨op.toNat, by omega⟩
  have hk : k < 54 := by omega
  rw [nm_nat hk, fm_nat hk]
  obtain ⟨c1, c2⟩ := hw.cell k hk
  have h0 := hw.1
  clear hw
  go_enter Tryd.func26, Tryd.ntmps26
  go_wp2
  refine bodyPost_ret (v := .agg #[.string (nmN k), .string (fmN k)]) (by simp [results, Tryd.results26, go_sem]) rfl ⟨rfl, ?_⟩
  exact h.alloc h.size _

theorem field0 (a b : Value) (w : World) : (Instr.field 46 (.agg #[a, b]) 0).run Tryd.prog w = .ok a w := by kernel_rfl
theorem field1 (a b : Value) (w : World) : (Instr.field 46 (.agg #[a, b]) 1).run Tryd.prog w = .ok b w := by kernel_rfl

theorem name_in (w0 w : World) (h : Below w0.heap.size w0 w) (ht : Tab w0) (op : Int) :
    Calls Tryd.prog 16 #[.int .i64 op] w fun e w' => e = .returned (.string (nm op)) ∧ Below w0.heap.size w0 w' := by
  have hf := field0
  go_enter Tryd.func16, Tryd.ntmps16
  go_wp2_with (go_at_call 26; refine (of_in w0 w h ht op).mono ?_; rintro e w1 ⟨rfl, hb1⟩)
  go_ret
  exact ⟨rfl, by assumption⟩

theorem form_in (w0 w : World) (h : Below w0.heap.size w0 w) (ht : Tab w0) (op : Int) :
    Calls Tryd.prog 15 #[.int .i64 op] w fun e w' => e = .returned (.string (fm op)) ∧ Below w0.heap.size w0 w' := by
  have hf := field1
  go_enter Tryd.func15, Tryd.ntmps15
  go_wp2_with (go_at_call 26; refine (of_in w0 w h ht op).mono ?_; rintro e w1 ⟨rfl, hb1⟩)
  go_ret
  exact ⟨rfl, by assumption⟩

theorem nm_zero {op : Int} (h : ¬ (1 ≤ op ∧ op ≤ 53)) : nm op = ⟨#[]⟩ := by
  by_cases h0 : op = 0
  · subst h0; rfl
  · exact nm_out (by omega)
theorem fm_zero {op : Int} (h : ¬ (1 ≤ op ∧ op ≤ 53)) : fm op = ⟨#[]⟩ := by
  by_cases h0 : op = 0
  · subst h0; rfl
  · exact fm_out (by omega)

theorem fm_none {op : Int} (h : op = 51 ∨ op = 53 ∨ ¬ (1 ≤ op ∧ op ≤ 53)) : fm op = ⟨#[]⟩ := by
  rcases h with rfl | rfl | h
  · rfl
  · rfl
  · exact fm_zero h

set_option maxRecDepth 100000 in
set_option maxHeartbeats 4000000 in
theorem rname_any (op : Int) (w : World) :
    Calls Tryd.prog 17 #[.int .i64 op] w fun e w' => e = .returned (.string (nm op)) ∧ w = w' := by
  go_enter Tryd.func17, Tryd.ntmps17
  go_wp2
  all_goals first
    | (obtain rfl := eq_of_beq ‹(op == _) = true›
       go_ret
       exact ⟨rfl, rfl⟩)
    | (rw [nm_zero (op := op) (by simp only [beq_eq_false_iff_ne] at *; omega)]
       go_ret
       exact ⟨rfl, rfl⟩)

set_option maxRecDepth 100000 in
set_option maxHeartbeats 4000000 in
theorem rform_any (op : Int) (w : World) :
    Calls Tryd.prog 18 #[.int .i64 op] w fun e w' => e = .returned (.string (fm op)) ∧ w = w' := by
  go_enter Tryd.func18, Tryd.ntmps18
  go_wp2
  all_goals first
    | (obtain rfl := eq_of_beq ‹(op == _) = true›
       go_ret
       exact ⟨rfl, rfl⟩)
    | (rw [fm_none (op := op) (by simp only [beq_eq_false_iff_ne] at *; omega)]
       go_ret
       exact ⟨rfl, rfl⟩)


/-- the seven forms -/
theorem fmN_cases : ∀ k : Nat, k < 54 → fmN k = ⟨#[97, 105]⟩ ∨ fmN k = ⟨#[97, 106]⟩ ∨ fmN k = ⟨#[97, 98, 99]⟩ ∨ fmN k = ⟨#[97, 98, 105]⟩ ∨ fmN k = ⟨#[97, 98]⟩ ∨ fmN k = ⟨#[]⟩ ∨ fmN k = ⟨#[105]⟩
  | 0, _ => .inr (.inr (.inr (.inr (.inr (.inl rfl)))))
  | 1, _ => .inl rfl
  | 2, _ => .inr (.inl rfl)
  | 3, _ => .inr (.inr (.inl rfl))
  | 4, _ => .inr (.inr (.inl rfl))
  | 5, _ => .inr (.inr (.inl rfl))
  | 6, _ => .inr (.inr (.inl rfl))
  | 7, _ => .inr (.inr (.inl rfl))
  | 8, _ => .inr (.inr (.inl rfl))
  | 9, _ => .inr (.inr (.inl rfl))
  | 10, _ => .inr (.inr (.inl rfl))
  | 11, _ => .inr (.inr (.inl rfl))
  | 12, _ => .inr (.inr (.inl rfl))
  | 13, _ => .inr (.inr (.inl rfl))
  | 14, _ => .inr (.inr (.inl rfl))
  | 15, _ => .inr (.inr (.inl rfl))
  | 16, _ => .inr (.inr (.inr (.inl rfl)))
  | 17, _ => .inr (.inr (.inr (.inl rfl)))
  | 18, _ => .inr (.inr (.inr (.inl rfl)))
  | 19, _ => .inr (.inr (.inr (.inl rfl)))
  | 20, _ => .inr (.inr (.inr (.inl rfl)))
  | 21, _ => .inr (.inr (.inr (.inl rfl)))
  | 22, _ => .inr (.inr (.inr (.inl rfl)))
  | 23, _ => .inr (.inr (.inr (.inl rfl)))
  | 24, _ => .inr (.inr (.inr (.inl rfl)))
  | 25, _ => .inr (.inr (.inr (.inl rfl)))
  | 26, _ => .inr (.inr (.inr (.inl rfl)))
  | 27, _ => .inr (.inr (.inr (.inl rfl)))
  | 28, _ => .inr (.inr (.inr (.inl rfl)))
  | 29, _ => .inr (.inl rfl)
  | 30, _ => .inr (.inr (.inr (.inr (.inl rfl))))
  | 31, _ => .inr (.inr (.inr (.inr (.inl rfl))))
  | 32, _ => .inr (.inr (.inl rfl))
  | 33, _ => .inr (.inr (.inr (.inl rfl)))
  | 34, _ => .inr (.inr (.inl rfl))
  | 35, _ => .inr (.inr (.inl rfl))
  | 36, _ => .inr (.inr (.inl rfl))
  | 37, _ => .inr (.inr (.inl rfl))
  | 38, _ => .inr (.inr (.inl rfl))
  | 39, _ => .inr (.inr (.inl rfl))
  | 40, _ => .inr (.inr (.inl rfl))
  | 41, _ => .inr (.inr (.inr (.inr (.inl rfl))))
  | 42, _ => .inr (.inr (.inr (.inr (.inl rfl))))
  | 43, _ => .inr (.inr (.inr (.inr (.inl rfl))))
  | 44, _ => .inr (.inr (.inr (.inr (.inl rfl))))
  | 45, _ => .inr (.inr (.inr (.inr (.inl rfl))))
  | 46, _ => .inr (.inr (.inr (.inr (.inl rfl))))
  | 47, _ => .inr (.inr (.inr (.inr (.inl rfl))))
  | 48, _ => .inr (.inr (.inr (.inr (.inl rfl))))
  | 49, _ => .inr (.inl rfl)
  | 50, _ => .inr (.inr (.inr (.inr (.inl rfl))))
  | 51, _ => .inr (.inr (.inr (.inr (.inr (.inl rfl)))))
  | 52, _ => .inr (.inr (.inr (.inr (.inr (.inr rfl)))))
  | 53, _ => .inr (.inr (.inr (.inr (.inr (.inl rfl)))))
  | k + 54, h => by omega

theorem fm_cases (op : Int) : fm op = ⟨#[97, 105]⟩ ∨ fm op = ⟨#[97, 106]⟩ ∨ fm op = ⟨#[97, 98, 99]⟩ ∨ fm op = ⟨#[97, 98, 105]⟩ ∨ fm op = ⟨#[97, 98]⟩ ∨ fm op = ⟨#[]⟩ ∨ fm op = ⟨#[105]⟩ := by
  by_cases h : 0 ≤ op ∧ op ≤ 53
  · obtain ⟨k, rfl⟩ : ∃ k : Nat, op = k := ⟨op.toNat, by omega⟩
    rw [fm_nat (by omega)]
    exact fmN_cases k (by omega)
  · rw [fm_out h]; exact .inr (.inr (.inr (.inr (.inr (.inl rfl)))))
theorem fm_size (op : Int) : (fm op).size ≤ 1000 := by
  rcases fm_cases op with h | h | h | h | h | h | h <;> rw [h] <;> decide

end Go.Proofs.YtoaneiidomdljaaDoor
