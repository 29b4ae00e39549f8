/- The walks of IsaLays, IsaReads and IsaNames: for every instruction, word, number and name. -/
import Derived.Test.YtoaneiidomdljaaDoorWorks
namespace Go.Proofs.YtoaneiidomdljaaDoor
open Go.RowKit Go.Shelf

theorem bd_wf {a : Int} (h : (Lit.int .u32 a).wf = true) : 0 ≤ a ∧ a < 4294967296 := by
  have hmin : IntKind.u32.min = 0 := rfl
  have hmax : IntKind.u32.max = 4294967295 := rfl
  simp only [Lit.wf, Bool.and_eq_true, decide_eq_true_eq] at h
  omega

set_option maxHeartbeats 1000000 in
theorem names_walk (w : World) (ht : Tab w) (op : Int) (x : ByteArray) : Calls Tryd.prog 8 #[.int .i64 op, .string x] w fun e w' => e = .returned (.bool true) ∧ Below w.heap.size w w' := by
  have hB := Below.refl w.heap.size w
  go_enter Tryd.func8, Tryd.ntmps8
  go_wp2_with fail
  refine (name_in w w hB ht op).mono ?_
  rintro e w1 ⟨rfl, h1⟩
  go_wp2_with fail
  refine (rname_any op w1).mono ?_
  rintro e w1' ⟨rfl, rfl⟩
  have q1 : ((nm op).toList == (nm op).toList) = true := by simp
  have q2 : ((fm op).toList == (fm op).toList) = true := by simp
  go_wp2_with fail
  refine (form_in w w1 h1 ht op).mono ?_
  rintro e w2 ⟨rfl, h2⟩
  go_wp2_with fail
  refine (rform_any op w2).mono ?_
  rintro e w2' ⟨rfl, rfl⟩
  go_wp2_with fail
  refine (op_in w w2 h2 ht x).mono ?_
  rintro e w3 ⟨rfl, h3⟩
  go_wp2_with fail
  refine (rop_any x w3).mono ?_
  rintro e w3' ⟨rfl, rfl⟩
  have q3 : (opOf x == opOf x) = true := by simp
  go_wp2_with fail
  refine (works_in w w3 h3 ht).mono ?_
  rintro e w4 ⟨rfl, h4⟩
  go_wp2_with fail
  go_ret
  exact ⟨rfl, h4⟩

set_option maxHeartbeats 1000000 in
theorem reads_walk (w : World) (ht : Tab w) (W : Int) (hW : (Lit.int .u32 W).wf = true) : Calls Tryd.prog 4 #[.int .u32 W] w fun e w' => e = .returned (.bool true) ∧ Below w.heap.size w w' := by
  have hB := Below.refl w.heap.size w
  obtain ⟨hW0, hW1⟩ := bd_wf hW
  clear hW
  go_enter Tryd.func4, Tryd.ntmps4
  go_wp2_with fail
  refine (dec_in w w hB ht W hW0 hW1).mono ?_
  rintro e w1 ⟨rfl, h1⟩
  go_wp2_with fail
  refine (rdec_in w w1 h1 W hW0 hW1).mono ?_
  rintro e w2 ⟨rfl, h2⟩
  go_wp2_with fail
  refine (works_in w w2 h2 ht).mono ?_
  rintro e w4 ⟨rfl, h4⟩
  go_wp2_with fail
  go_ret
  exact ⟨rfl, h4⟩

set_option maxHeartbeats 1000000 in
theorem lays_walk (w : World) (ht : Tab w) (op a b c m : Int) : Calls Tryd.prog 3 #[.agg (insV op a b c m)] w fun e w' => e = .returned (.bool true) ∧ Below w.heap.size w w' := by
  have hB := (Below.refl w.heap.size w).alloc (Nat.le_refl _) (.cells (insV op a b c m) 23)
  go_enter Tryd.func3, Tryd.ntmps3
  go_wp2_with fail
  refine (enc_k w _ w.heap.size _ (heap_alloc_new _ _) hB ht op a b c m _ _ rfl rfl).mono ?_
  rintro e z ⟨rfl, hz, hb⟩
  have k0 : z.cell? ⟨w.heap.size, 0, none⟩ = some (.int .i64 op) := (cell_of_row z _ 0 _ _ _ hz).trans rfl
  have k1 : z.cell? ⟨w.heap.size, 1, none⟩ = some (.int .i64 a) := (cell_of_row z _ 1 _ _ _ hz).trans rfl
  have k2 : z.cell? ⟨w.heap.size, 2, none⟩ = some (.int .i64 b) := (cell_of_row z _ 2 _ _ _ hz).trans rfl
  have k3 : z.cell? ⟨w.heap.size, 3, none⟩ = some (.int .i64 c) := (cell_of_row z _ 3 _ _ _ hz).trans rfl
  have k4 : z.cell? ⟨w.heap.size, 4, none⟩ = some (.int .i64 m) := (cell_of_row z _ 4 _ _ _ hz).trans rfl
  go_wp2_with fail
  refine (renc_in w z hb op a b c m).mono ?_
  rintro e z2 ⟨rfl, h2⟩
  go_wp2_with fail
  refine (works_in w z2 h2 ht).mono ?_
  rintro e w4 ⟨rfl, h4⟩
  go_wp2_with fail
  go_ret
  exact ⟨rfl, h4⟩
end Go.Proofs.YtoaneiidomdljaaDoor
