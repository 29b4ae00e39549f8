/- What isa.Decode answers, form by form (printed by gen-dec.py). -/
import Derived.Test.YtoaneiidomdljaaDoorDec
import Derived.Laws.EntriesVeiled
import Derived.LoopN
namespace Go.Proofs.YtoaneiidomdljaaDoor
open Go.RowKit Go.Shelf

/-- what is read, if it is laid again as it was -/
def pickI (op a b c m W : Int) : Array Value := if encE op a b c m = 0 ∧ encW op a b c m = W then insV op a b c m else insV 0 0 0 0 0

theorem pick_eq {op a b c m W v x : Int} (hv : encW op a b c m = v) (hx : encE op a b c m = x) : pickI op a b c m W = if x = 0 ∧ v = W then insV op a b c m else insV 0 0 0 0 0 := by
  subst hv hx; rfl
theorem enc_e {op a b c m x : Int} (hx : encE op a b c m = x) : x = 0 ∨ x = 2 := by
  subst hx; unfold encE; split
  · exact .inl rfl
  · exact .inr rfl
theorem denc_at {w0 w : World} {C D : Nat} {o : Obj} {op a b c m W : Int} (h : SD w0 w C D o op a b c m W) (ht : Tab w0) (v x : Int) (hv : encW op a b c m = v) (hx : encE op a b c m = x) :
    Calls Tryd.prog 10 #[.agg (insV op a b c m)] w fun e w' => e = .returned (.tuple #[.int .u32 v, .int .i64 x]) ∧ SD w0 w' C D o op a b c m W := by
  subst hv hx
  exact denc_st h ht
theorem rstore {z : World} {g : Nat} {y0 y1 y2 y3 y4 : Int} (h : z.heap[g]? = some (.cells (insV y0 y1 y2 y3 y4) 23 (0, 0))) (x0 x1 x2 x3 x4 : Int) :
    (((((z.setCell ⟨g, 0, none⟩ (.int .i64 x0)).setCell ⟨g, 1, none⟩ (.int .i64 x1)).setCell ⟨g, 2, none⟩ (.int .i64 x2)).setCell ⟨g, 3, none⟩ (.int .i64 x3)).setCell ⟨g, 4, none⟩ (.int .i64 x4)).heap[g]? = some (.cells (insV x0 x1 x2 x3 x4) 23 (0, 0)) :=
  heap_setCell_same _ g 4 _ 23 _ (heap_setCell_same _ g 3 _ 23 _ (heap_setCell_same _ g 2 _ 23 _ (heap_setCell_same _ g 1 _ 23 _ (heap_setCell_same _ g 0 _ 23 _ h))))
theorem rbelow {w0 z : World} {C : Nat} (h : Below w0.heap.size w0 z) (hC : w0.heap.size ≤ C) (x0 x1 x2 x3 x4 : Int) :
    Below w0.heap.size w0 (((((z.setCell ⟨C + 1, 0, none⟩ (.int .i64 x0)).setCell ⟨C + 1, 1, none⟩ (.int .i64 x1)).setCell ⟨C + 1, 2, none⟩ (.int .i64 x2)).setCell ⟨C + 1, 3, none⟩ (.int .i64 x3)).setCell ⟨C + 1, 4, none⟩ (.int .i64 x4)) := by
  have hC1 : w0.heap.size ≤ C + 1 := by omega
  exact ((((h.setCell (p := ⟨C + 1, 0, none⟩) hC1 _).setCell (p := ⟨C + 1, 1, none⟩) hC1 _).setCell (p := ⟨C + 1, 2, none⟩) hC1 _).setCell (p := ⟨C + 1, 3, none⟩) hC1 _).setCell (p := ⟨C + 1, 4, none⟩) hC1 _
theorem SD.rcells {w0 w : World} {C D : Nat} {o : Obj} {op a b c m W : Int} (h : SD w0 w C D o op a b c m W) :
    (w.cell? ⟨C + 1, 0, none⟩ = some (.int .i64 0) ∧ w.cell? ⟨C + 1, 1, none⟩ = some (.int .i64 0) ∧ w.cell? ⟨C + 1, 2, none⟩ = some (.int .i64 0) ∧ w.cell? ⟨C + 1, 3, none⟩ = some (.int .i64 0) ∧ w.cell? ⟨C + 1, 4, none⟩ = some (.int .i64 0)) ∧
    (w.frozen? ⟨C + 1, 0, none⟩ = false ∧ w.frozen? ⟨C + 1, 1, none⟩ = false ∧ w.frozen? ⟨C + 1, 2, none⟩ = false ∧ w.frozen? ⟨C + 1, 3, none⟩ = false ∧ w.frozen? ⟨C + 1, 4, none⟩ = false) :=
  ⟨⟨(cell_of_row w _ 0 _ _ _ h.hR).trans rfl, (cell_of_row w _ 1 _ _ _ h.hR).trans rfl, (cell_of_row w _ 2 _ _ _ h.hR).trans rfl, (cell_of_row w _ 3 _ _ _ h.hR).trans rfl, (cell_of_row w _ 4 _ _ _ h.hR).trans rfl⟩,
    frozen_of_row h.hR 0, frozen_of_row h.hR 1, frozen_of_row h.hR 2, frozen_of_row h.hR 3, frozen_of_row h.hR 4⟩


set_option maxHeartbeats 4000000 in
theorem dec_ai (w0 w : World) (h : Below w0.heap.size w0 w) (ht : Tab w0) (W : Int) (hW0 : 0 ≤ W) (hW1 : W < 4294967296) (hf : fm (W / 16777216) = ⟨#[97, 105]⟩) :
    Calls Tryd.prog 13 #[.int .u32 W] w fun e w' => e = .returned (.agg (pickI (W / 16777216) (tkv W 20 4) 0 0 (sgv W 12) W)) ∧ Below w0.heap.size w0 w' := by
  go_enter Tryd.func13, Tryd.ntmps13
  go_wp2_with fail
  refine (dform_st w0 w W _ h ht _ hf).mono ?_
  rintro e w2 ⟨rfl, hs0⟩
  obtain ⟨v0, hn0, hs0n⟩ := hs0.nx 1 0 97 rfl rfl (by decide) (by decide) (by decide)
  obtain ⟨kC, kF, ⟨k0, k1, k2, k3, k4⟩, ⟨f1, f2, f3, f4⟩⟩ := hs0n.cells
  go_wp2_with fail
  refine wp_loop_rounds 3 ?_
  rw [rounds_succ]
  go_wp2_with fail
  refine (take_any v0 w.heap.size W 20 4 kC hW0 hW1 (by unfold tkOk; omega)).mono ?_
  rintro e u0 ⟨rfl, n0, rfl⟩
  have hs1 := hs0n.put 1 (tkv W 20 4) n0 rfl
  obtain ⟨v1, hn1, hs1n⟩ := hs1.nx 2 1 105 rfl rfl (by decide) (by decide) (by decide)
  obtain ⟨kC, kF, ⟨k0, k1, k2, k3, k4⟩, ⟨f1, f2, f3, f4⟩⟩ := hs1n.cells
  go_wp2_with fail
  rw [rounds_succ]
  go_wp2_with fail
  refine (signed_any v1 w.heap.size (w.heap.size + 1 + 1 + 1) W 12 kC kF hW0 hW1 (by omega)).mono ?_
  rintro e u1 ⟨rfl, n1, rfl⟩
  have hs2 := hs1n.put 4 (sgv W 12) n1 rfl
  have hn2 := hs2.nxe (by decide)
  obtain ⟨kC, kF, ⟨k0, k1, k2, k3, k4⟩, ⟨f1, f2, f3, f4⟩⟩ := hs2.cells
  go_wp2_with fail
  rw [rounds_succ]
  go_wp2_with fail
  obtain ⟨v, hv⟩ : ∃ v, encW (W / 16777216) (tkv W 20 4) 0 0 (sgv W 12) = v := ⟨_, rfl⟩
  obtain ⟨x, hx⟩ : ∃ x, encE (W / 16777216) (tkv W 20 4) 0 0 (sgv W 12) = x := ⟨_, rfl⟩
  have HP := pick_eq (W := W) hv hx
  refine (denc_at hs2 ht v x hv hx).mono ?_
  rintro e z ⟨rfl, hz⟩
  obtain ⟨kC, kF, ⟨k0, k1, k2, k3, k4⟩, ⟨f1, f2, f3, f4⟩⟩ := hz.cells
  obtain ⟨⟨r0, r1, r2, r3, r4⟩, ⟨g0, g1, g2, g3, g4⟩⟩ := hz.rcells
  have hx2 := enc_e hx
  clear hv hx
  have hbb := hz.bel
  rcases hx2 with rfl | rfl
  · by_cases hvW : v = W
    · subst hvW
      have H1 := Lib.hid (HP.trans (if_pos ⟨rfl, rfl⟩))
      clear HP
      go_wp2_with fail
      exact bodyPost_ret (results_cell_row (p := 2) rfl _ _ (w.heap.size + 1) 23 (insV (v / 16777216) (tkv v 20 4) 0 0 (sgv v 12)) (0, 0) _ rfl (rstore hz.hR _ _ _ _ _) Tryd.underlying23 rfl (by kernel_rfl)) rfl ⟨by rw [H1.out], rbelow hbb h.size _ _ _ _ _⟩
    · have H1 := Lib.hid (HP.trans (if_neg fun h => hvW h.2))
      have hq : (v != W) = true := by simpa using hvW
      clear HP hvW
      go_wp2_with fail
      exact bodyPost_ret (results_cell_row (p := 2) rfl _ _ (w.heap.size + 1) 23 (insV 0 0 0 0 0) (0, 0) _ rfl (rstore hz.hR _ _ _ _ _) Tryd.underlying23 rfl (by kernel_rfl)) rfl ⟨by rw [H1.out], rbelow hbb h.size _ _ _ _ _⟩
  · have H1 := Lib.hid (HP.trans (if_neg fun h => by have := h.1; omega))
    clear HP
    go_wp2_with fail
    exact bodyPost_ret (results_cell_row (p := 2) rfl _ _ (w.heap.size + 1) 23 (insV 0 0 0 0 0) (0, 0) _ rfl (rstore hz.hR _ _ _ _ _) Tryd.underlying23 rfl (by kernel_rfl)) rfl ⟨by rw [H1.out], rbelow hbb h.size _ _ _ _ _⟩

set_option maxHeartbeats 4000000 in
theorem dec_aj (w0 w : World) (h : Below w0.heap.size w0 w) (ht : Tab w0) (W : Int) (hW0 : 0 ≤ W) (hW1 : W < 4294967296) (hf : fm (W / 16777216) = ⟨#[97, 106]⟩) :
    Calls Tryd.prog 13 #[.int .u32 W] w fun e w' => e = .returned (.agg (pickI (W / 16777216) (tkv W 20 4) 0 0 (sgv W 20) W)) ∧ Below w0.heap.size w0 w' := by
  go_enter Tryd.func13, Tryd.ntmps13
  go_wp2_with fail
  refine (dform_st w0 w W _ h ht _ hf).mono ?_
  rintro e w2 ⟨rfl, hs0⟩
  obtain ⟨v0, hn0, hs0n⟩ := hs0.nx 1 0 97 rfl rfl (by decide) (by decide) (by decide)
  obtain ⟨kC, kF, ⟨k0, k1, k2, k3, k4⟩, ⟨f1, f2, f3, f4⟩⟩ := hs0n.cells
  go_wp2_with fail
  refine wp_loop_rounds 3 ?_
  rw [rounds_succ]
  go_wp2_with fail
  refine (take_any v0 w.heap.size W 20 4 kC hW0 hW1 (by unfold tkOk; omega)).mono ?_
  rintro e u0 ⟨rfl, n0, rfl⟩
  have hs1 := hs0n.put 1 (tkv W 20 4) n0 rfl
  obtain ⟨v1, hn1, hs1n⟩ := hs1.nx 2 1 106 rfl rfl (by decide) (by decide) (by decide)
  obtain ⟨kC, kF, ⟨k0, k1, k2, k3, k4⟩, ⟨f1, f2, f3, f4⟩⟩ := hs1n.cells
  go_wp2_with fail
  rw [rounds_succ]
  go_wp2_with fail
  refine (signed_any v1 w.heap.size (w.heap.size + 1 + 1 + 1) W 20 kC kF hW0 hW1 (by omega)).mono ?_
  rintro e u1 ⟨rfl, n1, rfl⟩
  have hs2 := hs1n.put 4 (sgv W 20) n1 rfl
  have hn2 := hs2.nxe (by decide)
  obtain ⟨kC, kF, ⟨k0, k1, k2, k3, k4⟩, ⟨f1, f2, f3, f4⟩⟩ := hs2.cells
  go_wp2_with fail
  rw [rounds_succ]
  go_wp2_with fail
  obtain ⟨v, hv⟩ : ∃ v, encW (W / 16777216) (tkv W 20 4) 0 0 (sgv W 20) = v := ⟨_, rfl⟩
  obtain ⟨x, hx⟩ : ∃ x, encE (W / 16777216) (tkv W 20 4) 0 0 (sgv W 20) = x := ⟨_, rfl⟩
  have HP := pick_eq (W := W) hv hx
  refine (denc_at hs2 ht v x hv hx).mono ?_
  rintro e z ⟨rfl, hz⟩
  obtain ⟨kC, kF, ⟨k0, k1, k2, k3, k4⟩, ⟨f1, f2, f3, f4⟩⟩ := hz.cells
  obtain ⟨⟨r0, r1, r2, r3, r4⟩, ⟨g0, g1, g2, g3, g4⟩⟩ := hz.rcells
  have hx2 := enc_e hx
  clear hv hx
  have hbb := hz.bel
  rcases hx2 with rfl | rfl
  · by_cases hvW : v = W
    · subst hvW
      have H1 := Lib.hid (HP.trans (if_pos ⟨rfl, rfl⟩))
      clear HP
      go_wp2_with fail
      exact bodyPost_ret (results_cell_row (p := 2) rfl _ _ (w.heap.size + 1) 23 (insV (v / 16777216) (tkv v 20 4) 0 0 (sgv v 20)) (0, 0) _ rfl (rstore hz.hR _ _ _ _ _) Tryd.underlying23 rfl (by kernel_rfl)) rfl ⟨by rw [H1.out], rbelow hbb h.size _ _ _ _ _⟩
    · have H1 := Lib.hid (HP.trans (if_neg fun h => hvW h.2))
      have hq : (v != W) = true := by simpa using hvW
      clear HP hvW
      go_wp2_with fail
      exact bodyPost_ret (results_cell_row (p := 2) rfl _ _ (w.heap.size + 1) 23 (insV 0 0 0 0 0) (0, 0) _ rfl (rstore hz.hR _ _ _ _ _) Tryd.underlying23 rfl (by kernel_rfl)) rfl ⟨by rw [H1.out], rbelow hbb h.size _ _ _ _ _⟩
  · have H1 := Lib.hid (HP.trans (if_neg fun h => by have := h.1; omega))
    clear HP
    go_wp2_with fail
    exact bodyPost_ret (results_cell_row (p := 2) rfl _ _ (w.heap.size + 1) 23 (insV 0 0 0 0 0) (0, 0) _ rfl (rstore hz.hR _ _ _ _ _) Tryd.underlying23 rfl (by kernel_rfl)) rfl ⟨by rw [H1.out], rbelow hbb h.size _ _ _ _ _⟩

set_option maxHeartbeats 4000000 in
theorem dec_abc (w0 w : World) (h : Below w0.heap.size w0 w) (ht : Tab w0) (W : Int) (hW0 : 0 ≤ W) (hW1 : W < 4294967296) (hf : fm (W / 16777216) = ⟨#[97, 98, 99]⟩) :
    Calls Tryd.prog 13 #[.int .u32 W] w fun e w' => e = .returned (.agg (pickI (W / 16777216) (tkv W 20 4) (tkv W 16 4) (tkv W 12 4) 0 W)) ∧ Below w0.heap.size w0 w' := by
  go_enter Tryd.func13, Tryd.ntmps13
  go_wp2_with fail
  refine (dform_st w0 w W _ h ht _ hf).mono ?_
  rintro e w2 ⟨rfl, hs0⟩
  obtain ⟨v0, hn0, hs0n⟩ := hs0.nx 1 0 97 rfl rfl (by decide) (by decide) (by decide)
  obtain ⟨kC, kF, ⟨k0, k1, k2, k3, k4⟩, ⟨f1, f2, f3, f4⟩⟩ := hs0n.cells
  go_wp2_with fail
  refine wp_loop_rounds 4 ?_
  rw [rounds_succ]
  go_wp2_with fail
  refine (take_any v0 w.heap.size W 20 4 kC hW0 hW1 (by unfold tkOk; omega)).mono ?_
  rintro e u0 ⟨rfl, n0, rfl⟩
  have hs1 := hs0n.put 1 (tkv W 20 4) n0 rfl
  obtain ⟨v1, hn1, hs1n⟩ := hs1.nx 2 1 98 rfl rfl (by decide) (by decide) (by decide)
  obtain ⟨kC, kF, ⟨k0, k1, k2, k3, k4⟩, ⟨f1, f2, f3, f4⟩⟩ := hs1n.cells
  go_wp2_with fail
  rw [rounds_succ]
  go_wp2_with fail
  refine (take_any v1 w.heap.size W 16 4 kC hW0 hW1 (by unfold tkOk; omega)).mono ?_
  rintro e u1 ⟨rfl, n1, rfl⟩
  have hs2 := hs1n.put 2 (tkv W 16 4) n1 rfl
  obtain ⟨v2, hn2, hs2n⟩ := hs2.nx 3 2 99 rfl rfl (by decide) (by decide) (by decide)
  obtain ⟨kC, kF, ⟨k0, k1, k2, k3, k4⟩, ⟨f1, f2, f3, f4⟩⟩ := hs2n.cells
  go_wp2_with fail
  rw [rounds_succ]
  go_wp2_with fail
  refine (take_any v2 w.heap.size W 12 4 kC hW0 hW1 (by unfold tkOk; omega)).mono ?_
  rintro e u2 ⟨rfl, n2, rfl⟩
  have hs3 := hs2n.put 3 (tkv W 12 4) n2 rfl
  have hn3 := hs3.nxe (by decide)
  obtain ⟨kC, kF, ⟨k0, k1, k2, k3, k4⟩, ⟨f1, f2, f3, f4⟩⟩ := hs3.cells
  go_wp2_with fail
  rw [rounds_succ]
  go_wp2_with fail
  obtain ⟨v, hv⟩ : ∃ v, encW (W / 16777216) (tkv W 20 4) (tkv W 16 4) (tkv W 12 4) 0 = v := ⟨_, rfl⟩
  obtain ⟨x, hx⟩ : ∃ x, encE (W / 16777216) (tkv W 20 4) (tkv W 16 4) (tkv W 12 4) 0 = x := ⟨_, rfl⟩
  have HP := pick_eq (W := W) hv hx
  refine (denc_at hs3 ht v x hv hx).mono ?_
  rintro e z ⟨rfl, hz⟩
  obtain ⟨kC, kF, ⟨k0, k1, k2, k3, k4⟩, ⟨f1, f2, f3, f4⟩⟩ := hz.cells
  obtain ⟨⟨r0, r1, r2, r3, r4⟩, ⟨g0, g1, g2, g3, g4⟩⟩ := hz.rcells
  have hx2 := enc_e hx
  clear hv hx
  have hbb := hz.bel
  rcases hx2 with rfl | rfl
  · by_cases hvW : v = W
    · subst hvW
      have H1 := Lib.hid (HP.trans (if_pos ⟨rfl, rfl⟩))
      clear HP
      go_wp2_with fail
      exact bodyPost_ret (results_cell_row (p := 2) rfl _ _ (w.heap.size + 1) 23 (insV (v / 16777216) (tkv v 20 4) (tkv v 16 4) (tkv v 12 4) 0) (0, 0) _ rfl (rstore hz.hR _ _ _ _ _) Tryd.underlying23 rfl (by kernel_rfl)) rfl ⟨by rw [H1.out], rbelow hbb h.size _ _ _ _ _⟩
    · have H1 := Lib.hid (HP.trans (if_neg fun h => hvW h.2))
      have hq : (v != W) = true := by simpa using hvW
      clear HP hvW
      go_wp2_with fail
      exact bodyPost_ret (results_cell_row (p := 2) rfl _ _ (w.heap.size + 1) 23 (insV 0 0 0 0 0) (0, 0) _ rfl (rstore hz.hR _ _ _ _ _) Tryd.underlying23 rfl (by kernel_rfl)) rfl ⟨by rw [H1.out], rbelow hbb h.size _ _ _ _ _⟩
  · have H1 := Lib.hid (HP.trans (if_neg fun h => by have := h.1; omega))
    clear HP
    go_wp2_with fail
    exact bodyPost_ret (results_cell_row (p := 2) rfl _ _ (w.heap.size + 1) 23 (insV 0 0 0 0 0) (0, 0) _ rfl (rstore hz.hR _ _ _ _ _) Tryd.underlying23 rfl (by kernel_rfl)) rfl ⟨by rw [H1.out], rbelow hbb h.size _ _ _ _ _⟩

set_option maxHeartbeats 4000000 in
theorem dec_abi (w0 w : World) (h : Below w0.heap.size w0 w) (ht : Tab w0) (W : Int) (hW0 : 0 ≤ W) (hW1 : W < 4294967296) (hf : fm (W / 16777216) = ⟨#[97, 98, 105]⟩) :
    Calls Tryd.prog 13 #[.int .u32 W] w fun e w' => e = .returned (.agg (pickI (W / 16777216) (tkv W 20 4) (tkv W 16 4) 0 (sgv W 12) W)) ∧ Below w0.heap.size w0 w' := by
  go_enter Tryd.func13, Tryd.ntmps13
  go_wp2_with fail
  refine (dform_st w0 w W _ h ht _ hf).mono ?_
  rintro e w2 ⟨rfl, hs0⟩
  obtain ⟨v0, hn0, hs0n⟩ := hs0.nx 1 0 97 rfl rfl (by decide) (by decide) (by decide)
  obtain ⟨kC, kF, ⟨k0, k1, k2, k3, k4⟩, ⟨f1, f2, f3, f4⟩⟩ := hs0n.cells
  go_wp2_with fail
  refine wp_loop_rounds 4 ?_
  rw [rounds_succ]
  go_wp2_with fail
  refine (take_any v0 w.heap.size W 20 4 kC hW0 hW1 (by unfold tkOk; omega)).mono ?_
  rintro e u0 ⟨rfl, n0, rfl⟩
  have hs1 := hs0n.put 1 (tkv W 20 4) n0 rfl
  obtain ⟨v1, hn1, hs1n⟩ := hs1.nx 2 1 98 rfl rfl (by decide) (by decide) (by decide)
  obtain ⟨kC, kF, ⟨k0, k1, k2, k3, k4⟩, ⟨f1, f2, f3, f4⟩⟩ := hs1n.cells
  go_wp2_with fail
  rw [rounds_succ]
  go_wp2_with fail
  refine (take_any v1 w.heap.size W 16 4 kC hW0 hW1 (by unfold tkOk; omega)).mono ?_
  rintro e u1 ⟨rfl, n1, rfl⟩
  have hs2 := hs1n.put 2 (tkv W 16 4) n1 rfl
  obtain ⟨v2, hn2, hs2n⟩ := hs2.nx 3 2 105 rfl rfl (by decide) (by decide) (by decide)
  obtain ⟨kC, kF, ⟨k0, k1, k2, k3, k4⟩, ⟨f1, f2, f3, f4⟩⟩ := hs2n.cells
  go_wp2_with fail
  rw [rounds_succ]
  go_wp2_with fail
  refine (signed_any v2 w.heap.size (w.heap.size + 1 + 1 + 1) W 12 kC kF hW0 hW1 (by omega)).mono ?_
  rintro e u2 ⟨rfl, n2, rfl⟩
  have hs3 := hs2n.put 4 (sgv W 12) n2 rfl
  have hn3 := hs3.nxe (by decide)
  obtain ⟨kC, kF, ⟨k0, k1, k2, k3, k4⟩, ⟨f1, f2, f3, f4⟩⟩ := hs3.cells
  go_wp2_with fail
  rw [rounds_succ]
  go_wp2_with fail
  obtain ⟨v, hv⟩ : ∃ v, encW (W / 16777216) (tkv W 20 4) (tkv W 16 4) 0 (sgv W 12) = v := ⟨_, rfl⟩
  obtain ⟨x, hx⟩ : ∃ x, encE (W / 16777216) (tkv W 20 4) (tkv W 16 4) 0 (sgv W 12) = x := ⟨_, rfl⟩
  have HP := pick_eq (W := W) hv hx
  refine (denc_at hs3 ht v x hv hx).mono ?_
  rintro e z ⟨rfl, hz⟩
  obtain ⟨kC, kF, ⟨k0, k1, k2, k3, k4⟩, ⟨f1, f2, f3, f4⟩⟩ := hz.cells
  obtain ⟨⟨r0, r1, r2, r3, r4⟩, ⟨g0, g1, g2, g3, g4⟩⟩ := hz.rcells
  have hx2 := enc_e hx
  clear hv hx
  have hbb := hz.bel
  rcases hx2 with rfl | rfl
  · by_cases hvW : v = W
    · subst hvW
      have H1 := Lib.hid (HP.trans (if_pos ⟨rfl, rfl⟩))
      clear HP
      go_wp2_with fail
      exact bodyPost_ret (results_cell_row (p := 2) rfl _ _ (w.heap.size + 1) 23 (insV (v / 16777216) (tkv v 20 4) (tkv v 16 4) 0 (sgv v 12)) (0, 0) _ rfl (rstore hz.hR _ _ _ _ _) Tryd.underlying23 rfl (by kernel_rfl)) rfl ⟨by rw [H1.out], rbelow hbb h.size _ _ _ _ _⟩
    · have H1 := Lib.hid (HP.trans (if_neg fun h => hvW h.2))
      have hq : (v != W) = true := by simpa using hvW
      clear HP hvW
      go_wp2_with fail
      exact bodyPost_ret (results_cell_row (p := 2) rfl _ _ (w.heap.size + 1) 23 (insV 0 0 0 0 0) (0, 0) _ rfl (rstore hz.hR _ _ _ _ _) Tryd.underlying23 rfl (by kernel_rfl)) rfl ⟨by rw [H1.out], rbelow hbb h.size _ _ _ _ _⟩
  · have H1 := Lib.hid (HP.trans (if_neg fun h => by have := h.1; omega))
    clear HP
    go_wp2_with fail
    exact bodyPost_ret (results_cell_row (p := 2) rfl _ _ (w.heap.size + 1) 23 (insV 0 0 0 0 0) (0, 0) _ rfl (rstore hz.hR _ _ _ _ _) Tryd.underlying23 rfl (by kernel_rfl)) rfl ⟨by rw [H1.out], rbelow hbb h.size _ _ _ _ _⟩

set_option maxHeartbeats 4000000 in
theorem dec_ab (w0 w : World) (h : Below w0.heap.size w0 w) (ht : Tab w0) (W : Int) (hW0 : 0 ≤ W) (hW1 : W < 4294967296) (hf : fm (W / 16777216) = ⟨#[97, 98]⟩) :
    Calls Tryd.prog 13 #[.int .u32 W] w fun e w' => e = .returned (.agg (pickI (W / 16777216) (tkv W 20 4) (tkv W 16 4) 0 0 W)) ∧ Below w0.heap.size w0 w' := by
  go_enter Tryd.func13, Tryd.ntmps13
  go_wp2_with fail
  refine (dform_st w0 w W _ h ht _ hf).mono ?_
  rintro e w2 ⟨rfl, hs0⟩
  obtain ⟨v0, hn0, hs0n⟩ := hs0.nx 1 0 97 rfl rfl (by decide) (by decide) (by decide)
  obtain ⟨kC, kF, ⟨k0, k1, k2, k3, k4⟩, ⟨f1, f2, f3, f4⟩⟩ := hs0n.cells
  go_wp2_with fail
  refine wp_loop_rounds 3 ?_
  rw [rounds_succ]
  go_wp2_with fail
  refine (take_any v0 w.heap.size W 20 4 kC hW0 hW1 (by unfold tkOk; omega)).mono ?_
  rintro e u0 ⟨rfl, n0, rfl⟩
  have hs1 := hs0n.put 1 (tkv W 20 4) n0 rfl
  obtain ⟨v1, hn1, hs1n⟩ := hs1.nx 2 1 98 rfl rfl (by decide) (by decide) (by decide)
  obtain ⟨kC, kF, ⟨k0, k1, k2, k3, k4⟩, ⟨f1, f2, f3, f4⟩⟩ := hs1n.cells
  go_wp2_with fail
  rw [rounds_succ]
  go_wp2_with fail
  refine (take_any v1 w.heap.size W 16 4 kC hW0 hW1 (by unfold tkOk; omega)).mono ?_
  rintro e u1 ⟨rfl, n1, rfl⟩
  have hs2 := hs1n.put 2 (tkv W 16 4) n1 rfl
  have hn2 := hs2.nxe (by decide)
  obtain ⟨kC, kF, ⟨k0, k1, k2, k3, k4⟩, ⟨f1, f2, f3, f4⟩⟩ := hs2.cells
  go_wp2_with fail
  rw [rounds_succ]
  go_wp2_with fail
  obtain ⟨v, hv⟩ : ∃ v, encW (W / 16777216) (tkv W 20 4) (tkv W 16 4) 0 0 = v := ⟨_, rfl⟩
  obtain ⟨x, hx⟩ : ∃ x, encE (W / 16777216) (tkv W 20 4) (tkv W 16 4) 0 0 = x := ⟨_, rfl⟩
  have HP := pick_eq (W := W) hv hx
  refine (denc_at hs2 ht v x hv hx).mono ?_
  rintro e z ⟨rfl, hz⟩
  obtain ⟨kC, kF, ⟨k0, k1, k2, k3, k4⟩, ⟨f1, f2, f3, f4⟩⟩ := hz.cells
  obtain ⟨⟨r0, r1, r2, r3, r4⟩, ⟨g0, g1, g2, g3, g4⟩⟩ := hz.rcells
  have hx2 := enc_e hx
  clear hv hx
  have hbb := hz.bel
  rcases hx2 with rfl | rfl
  · by_cases hvW : v = W
    · subst hvW
      have H1 := Lib.hid (HP.trans (if_pos ⟨rfl, rfl⟩))
      clear HP
      go_wp2_with fail
      exact bodyPost_ret (results_cell_row (p := 2) rfl _ _ (w.heap.size + 1) 23 (insV (v / 16777216) (tkv v 20 4) (tkv v 16 4) 0 0) (0, 0) _ rfl (rstore hz.hR _ _ _ _ _) Tryd.underlying23 rfl (by kernel_rfl)) rfl ⟨by rw [H1.out], rbelow hbb h.size _ _ _ _ _⟩
    · have H1 := Lib.hid (HP.trans (if_neg fun h => hvW h.2))
      have hq : (v != W) = true := by simpa using hvW
      clear HP hvW
      go_wp2_with fail
      exact bodyPost_ret (results_cell_row (p := 2) rfl _ _ (w.heap.size + 1) 23 (insV 0 0 0 0 0) (0, 0) _ rfl (rstore hz.hR _ _ _ _ _) Tryd.underlying23 rfl (by kernel_rfl)) rfl ⟨by rw [H1.out], rbelow hbb h.size _ _ _ _ _⟩
  · have H1 := Lib.hid (HP.trans (if_neg fun h => by have := h.1; omega))
    clear HP
    go_wp2_with fail
    exact bodyPost_ret (results_cell_row (p := 2) rfl _ _ (w.heap.size + 1) 23 (insV 0 0 0 0 0) (0, 0) _ rfl (rstore hz.hR _ _ _ _ _) Tryd.underlying23 rfl (by kernel_rfl)) rfl ⟨by rw [H1.out], rbelow hbb h.size _ _ _ _ _⟩

set_option maxHeartbeats 4000000 in
theorem dec_0 (w0 w : World) (h : Below w0.heap.size w0 w) (ht : Tab w0) (W : Int) (hW0 : 0 ≤ W) (hW1 : W < 4294967296) (hf : fm (W / 16777216) = ⟨#[]⟩) :
    Calls Tryd.prog 13 #[.int .u32 W] w fun e w' => e = .returned (.agg (pickI (W / 16777216) 0 0 0 0 W)) ∧ Below w0.heap.size w0 w' := by
  go_enter Tryd.func13, Tryd.ntmps13
  go_wp2_with fail
  refine (dform_st w0 w W _ h ht _ hf).mono ?_
  rintro e w2 ⟨rfl, hs0⟩
  have hn0 := hs0.nxe (by decide)
  obtain ⟨kC, kF, ⟨k0, k1, k2, k3, k4⟩, ⟨f1, f2, f3, f4⟩⟩ := hs0.cells
  go_wp2_with fail
  refine wp_loop_rounds 1 ?_
  rw [rounds_succ]
  go_wp2_with fail
  obtain ⟨v, hv⟩ : ∃ v, encW (W / 16777216) 0 0 0 0 = v := ⟨_, rfl⟩
  obtain ⟨x, hx⟩ : ∃ x, encE (W / 16777216) 0 0 0 0 = x := ⟨_, rfl⟩
  have HP := pick_eq (W := W) hv hx
  refine (denc_at hs0 ht v x hv hx).mono ?_
  rintro e z ⟨rfl, hz⟩
  obtain ⟨kC, kF, ⟨k0, k1, k2, k3, k4⟩, ⟨f1, f2, f3, f4⟩⟩ := hz.cells
  obtain ⟨⟨r0, r1, r2, r3, r4⟩, ⟨g0, g1, g2, g3, g4⟩⟩ := hz.rcells
  have hx2 := enc_e hx
  clear hv hx
  have hbb := hz.bel
  rcases hx2 with rfl | rfl
  · by_cases hvW : v = W
    · subst hvW
      have H1 := Lib.hid (HP.trans (if_pos ⟨rfl, rfl⟩))
      clear HP
      go_wp2_with fail
      exact bodyPost_ret (results_cell_row (p := 2) rfl _ _ (w.heap.size + 1) 23 (insV (v / 16777216) 0 0 0 0) (0, 0) _ rfl (rstore hz.hR _ _ _ _ _) Tryd.underlying23 rfl (by kernel_rfl)) rfl ⟨by rw [H1.out], rbelow hbb h.size _ _ _ _ _⟩
    · have H1 := Lib.hid (HP.trans (if_neg fun h => hvW h.2))
      have hq : (v != W) = true := by simpa using hvW
      clear HP hvW
      go_wp2_with fail
      exact bodyPost_ret (results_cell_row (p := 2) rfl _ _ (w.heap.size + 1) 23 (insV 0 0 0 0 0) (0, 0) _ rfl (rstore hz.hR _ _ _ _ _) Tryd.underlying23 rfl (by kernel_rfl)) rfl ⟨by rw [H1.out], rbelow hbb h.size _ _ _ _ _⟩
  · have H1 := Lib.hid (HP.trans (if_neg fun h => by have := h.1; omega))
    clear HP
    go_wp2_with fail
    exact bodyPost_ret (results_cell_row (p := 2) rfl _ _ (w.heap.size + 1) 23 (insV 0 0 0 0 0) (0, 0) _ rfl (rstore hz.hR _ _ _ _ _) Tryd.underlying23 rfl (by kernel_rfl)) rfl ⟨by rw [H1.out], rbelow hbb h.size _ _ _ _ _⟩

set_option maxHeartbeats 4000000 in
theorem dec_i (w0 w : World) (h : Below w0.heap.size w0 w) (ht : Tab w0) (W : Int) (hW0 : 0 ≤ W) (hW1 : W < 4294967296) (hf : fm (W / 16777216) = ⟨#[105]⟩) :
    Calls Tryd.prog 13 #[.int .u32 W] w fun e w' => e = .returned (.agg (pickI (W / 16777216) 0 0 0 (sgv W 12) W)) ∧ Below w0.heap.size w0 w' := by
  go_enter Tryd.func13, Tryd.ntmps13
  go_wp2_with fail
  refine (dform_st w0 w W _ h ht _ hf).mono ?_
  rintro e w2 ⟨rfl, hs0⟩
  obtain ⟨v0, hn0, hs0n⟩ := hs0.nx 1 0 105 rfl rfl (by decide) (by decide) (by decide)
  obtain ⟨kC, kF, ⟨k0, k1, k2, k3, k4⟩, ⟨f1, f2, f3, f4⟩⟩ := hs0n.cells
  go_wp2_with fail
  refine wp_loop_rounds 2 ?_
  rw [rounds_succ]
  go_wp2_with fail
  refine (signed_any v0 w.heap.size (w.heap.size + 1 + 1 + 1) W 12 kC kF hW0 hW1 (by omega)).mono ?_
  rintro e u0 ⟨rfl, n0, rfl⟩
  have hs1 := hs0n.put 4 (sgv W 12) n0 rfl
  have hn1 := hs1.nxe (by decide)
  obtain ⟨kC, kF, ⟨k0, k1, k2, k3, k4⟩, ⟨f1, f2, f3, f4⟩⟩ := hs1.cells
  go_wp2_with fail
  rw [rounds_succ]
  go_wp2_with fail
  obtain ⟨v, hv⟩ : ∃ v, encW (W / 16777216) 0 0 0 (sgv W 12) = v := ⟨_, rfl⟩
  obtain ⟨x, hx⟩ : ∃ x, encE (W / 16777216) 0 0 0 (sgv W 12) = x := ⟨_, rfl⟩
  have HP := pick_eq (W := W) hv hx
  refine (denc_at hs1 ht v x hv hx).mono ?_
  rintro e z ⟨rfl, hz⟩
  obtain ⟨kC, kF, ⟨k0, k1, k2, k3, k4⟩, ⟨f1, f2, f3, f4⟩⟩ := hz.cells
  obtain ⟨⟨r0, r1, r2, r3, r4⟩, ⟨g0, g1, g2, g3, g4⟩⟩ := hz.rcells
  have hx2 := enc_e hx
  clear hv hx
  have hbb := hz.bel
  rcases hx2 with rfl | rfl
  · by_cases hvW : v = W
    · subst hvW
      have H1 := Lib.hid (HP.trans (if_pos ⟨rfl, rfl⟩))
      clear HP
      go_wp2_with fail
      exact bodyPost_ret (results_cell_row (p := 2) rfl _ _ (w.heap.size + 1) 23 (insV (v / 16777216) 0 0 0 (sgv v 12)) (0, 0) _ rfl (rstore hz.hR _ _ _ _ _) Tryd.underlying23 rfl (by kernel_rfl)) rfl ⟨by rw [H1.out], rbelow hbb h.size _ _ _ _ _⟩
    · have H1 := Lib.hid (HP.trans (if_neg fun h => hvW h.2))
      have hq : (v != W) = true := by simpa using hvW
      clear HP hvW
      go_wp2_with fail
      exact bodyPost_ret (results_cell_row (p := 2) rfl _ _ (w.heap.size + 1) 23 (insV 0 0 0 0 0) (0, 0) _ rfl (rstore hz.hR _ _ _ _ _) Tryd.underlying23 rfl (by kernel_rfl)) rfl ⟨by rw [H1.out], rbelow hbb h.size _ _ _ _ _⟩
  · have H1 := Lib.hid (HP.trans (if_neg fun h => by have := h.1; omega))
    clear HP
    go_wp2_with fail
    exact bodyPost_ret (results_cell_row (p := 2) rfl _ _ (w.heap.size + 1) 23 (insV 0 0 0 0 0) (0, 0) _ rfl (rstore hz.hR _ _ _ _ _) Tryd.underlying23 rfl (by kernel_rfl)) rfl ⟨by rw [H1.out], rbelow hbb h.size _ _ _ _ _⟩
end Go.Proofs.YtoaneiidomdljaaDoor
