/- What the document's Decode answers (printed by gen-rdec.py). -/
import Derived.Test.YtoaneiidomdljaaDoorDecW
namespace Go.Proofs.YtoaneiidomdljaaDoor
open Go.RowKit Go.Shelf

/-- the document's variables: the result, the instruction -/
structure SR (w0 w : World) (C : Nat) (op a b c m : Int) : Prop where
  le : w0.heap.size ≤ C
  hR : w.heap[C]? = some (.cells (insV 0 0 0 0 0) 23 (0, 0))
  hI : w.heap[C + 1]? = some (.cells (insV op a b c m) 23 (0, 0))
  bel : Below w0.heap.size w0 w

theorem renc_at (w0 w : World) (h : Below w0.heap.size w0 w) (op a b c m v x : Int) (hv : encW op a b c m = v) (hx : encE op a b c m = x) :
    Calls Tryd.prog 11 #[.agg (insV op a b c m)] ((w.alloc (.cells (insV 0 0 0 0 0) 23)).alloc (.cells (insV op a b c m) 23)) fun e z => e = .returned (.tuple #[.int .u32 v, .int .i64 x]) ∧ SR w0 z w.heap.size op a b c m := by
  subst hv hx
  generalize hu1 : w.alloc (.cells (insV 0 0 0 0 0) 23) = u1
  generalize hu2 : u1.alloc (.cells (insV op a b c m) 23) = u2
  have s1 : u1.heap.size = w.heap.size + 1 := by rw [← hu1]; exact World.size_alloc _ _
  have s2 : u2.heap.size = w.heap.size + 1 + 1 := by rw [← hu2, World.size_alloc, s1]
  have b1 : Below w0.heap.size w0 u1 := by rw [← hu1]; exact h.alloc h.size _
  have b2 : Below w0.heap.size w0 u2 := by rw [← hu2]; exact b1.alloc b1.size _
  have e1 : u1.heap[w.heap.size]? = some (.cells (insV 0 0 0 0 0) 23 (0, 0)) := by rw [← hu1]; exact heap_alloc_new _ _
  have e2 : u2.heap[w.heap.size + 1]? = some (.cells (insV op a b c m) 23 (0, 0)) := by rw [← hu2, ← s1]; exact heap_alloc_new _ _
  have o2 : ∀ k, k < u1.heap.size → u2.heap[k]? = u1.heap[k]? := fun k hk => by rw [← hu2]; exact Below.heap_alloc _ _ _ hk
  clear hu1 hu2
  refine (renc_in u2 u2 (Below.refl _ _) op a b c m).mono ?_
  rintro e z ⟨rfl, hb⟩
  exact ⟨rfl, h.size, by rw [hb.block _ (by omega), o2 _ (by omega)]; exact e1, by rw [hb.block _ (by omega)]; exact e2, b2.trans (hb.mono b2.size)⟩

theorem SR.cells {w0 w : World} {C : Nat} {op a b c m : Int} (h : SR w0 w C op a b c m) :
    (w.cell? ⟨C + 1, 0, none⟩ = some (.int .i64 op) ∧ w.cell? ⟨C + 1, 1, none⟩ = some (.int .i64 a) ∧ w.cell? ⟨C + 1, 2, none⟩ = some (.int .i64 b) ∧ w.cell? ⟨C + 1, 3, none⟩ = some (.int .i64 c) ∧ w.cell? ⟨C + 1, 4, none⟩ = some (.int .i64 m)) ∧
    (w.cell? ⟨C, 0, none⟩ = some (.int .i64 0) ∧ w.cell? ⟨C, 1, none⟩ = some (.int .i64 0) ∧ w.cell? ⟨C, 2, none⟩ = some (.int .i64 0) ∧ w.cell? ⟨C, 3, none⟩ = some (.int .i64 0) ∧ w.cell? ⟨C, 4, none⟩ = some (.int .i64 0)) ∧
    (w.frozen? ⟨C, 0, none⟩ = false ∧ w.frozen? ⟨C, 1, none⟩ = false ∧ w.frozen? ⟨C, 2, none⟩ = false ∧ w.frozen? ⟨C, 3, none⟩ = false ∧ w.frozen? ⟨C, 4, none⟩ = false) :=
  ⟨⟨(cell_of_row w _ 0 _ _ _ h.hI).trans rfl, (cell_of_row w _ 1 _ _ _ h.hI).trans rfl, (cell_of_row w _ 2 _ _ _ h.hI).trans rfl, (cell_of_row w _ 3 _ _ _ h.hI).trans rfl, (cell_of_row w _ 4 _ _ _ h.hI).trans rfl⟩,
    ⟨(cell_of_row w _ 0 _ _ _ h.hR).trans rfl, (cell_of_row w _ 1 _ _ _ h.hR).trans rfl, (cell_of_row w _ 2 _ _ _ h.hR).trans rfl, (cell_of_row w _ 3 _ _ _ h.hR).trans rfl, (cell_of_row w _ 4 _ _ _ h.hR).trans rfl⟩,
    frozen_of_row h.hR 0, frozen_of_row h.hR 1, frozen_of_row h.hR 2, frozen_of_row h.hR 3, frozen_of_row h.hR 4⟩
theorem rbelow0 {w0 z : World} {C : Nat} (h : Below w0.heap.size w0 z) (hC1 : w0.heap.size ≤ C) (x0 x1 x2 x3 x4 : Int) :
    Below w0.heap.size w0 (((((z.setCell ⟨C, 0, none⟩ (.int .i64 x0)).setCell ⟨C, 1, none⟩ (.int .i64 x1)).setCell ⟨C, 2, none⟩ (.int .i64 x2)).setCell ⟨C, 3, none⟩ (.int .i64 x3)).setCell ⟨C, 4, none⟩ (.int .i64 x4)) :=
  ((((h.setCell (p := ⟨C, 0, none⟩) hC1 _).setCell (p := ⟨C, 1, none⟩) hC1 _).setCell (p := ⟨C, 2, none⟩) hC1 _).setCell (p := ⟨C, 3, none⟩) hC1 _).setCell (p := ⟨C, 4, none⟩) hC1 _


set_option maxHeartbeats 2000000 in
theorem rdec_j_hi (w0 w : World) (h : Below w0.heap.size w0 w) (W : Int) (hW0 : 0 ≤ W) (hW1 : W < 4294967296) (hj : hasF (fm (W / 16777216)) 106 = true) (hc : 524288 ≤ W % 1048576) :
    Calls Tryd.prog 14 #[.int .u32 W] w fun e w' => e = .returned (.agg (pickI (W / 16777216) (W / 1048576 % 16) 0 0 (W % 1048576 - 1048576) W)) ∧ Below w0.heap.size w0 w' := by
  have hS := fm_size (W / 16777216)
  have hm0 : 0 ≤ W % 1048576 := by omega
  have hm1 : W % 1048576 < 1048576 := by omega
  go_enter Tryd.func14, Tryd.ntmps14
  go_wp2_with (first | (go_at_call 18; refine (rform_any _ _).mono ?_; rintro e w' ⟨rfl, rfl⟩) | (go_at_call 23; refine (has_any _ hS _ _).mono ?_; rintro e w' ⟨rfl, rfl⟩))
  obtain ⟨v, hv⟩ : ∃ v, encW (W / 16777216) (W / 1048576 % 16) 0 0 (W % 1048576 - 1048576) = v := ⟨_, rfl⟩
  obtain ⟨x, hx⟩ : ∃ x, encE (W / 16777216) (W / 1048576 % 16) 0 0 (W % 1048576 - 1048576) = x := ⟨_, rfl⟩
  have HP := pick_eq (W := W) hv hx
  refine (renc_at w0 w h _ _ _ _ _ v x hv hx).mono ?_
  rintro e z ⟨rfl, hz⟩
  obtain ⟨⟨k0, k1, k2, k3, k4⟩, ⟨r0, r1, r2, r3, r4⟩, ⟨g0, g1, g2, g3, g4⟩⟩ := hz.cells
  have hx2 := enc_e hx
  clear hv hx
  have hbb := hz.bel
  rcases hx2 with rfl | rfl
  · by_cases hvW : v = W
    · subst hvW
      have H1 := Lib.hid (HP.trans (if_pos ⟨rfl, rfl⟩))
      clear HP
      go_wp2_with fail
      exact bodyPost_ret (results_cell_row (p := 2) rfl _ _ w.heap.size 23 (insV (v / 16777216) (v / 1048576 % 16) 0 0 (v % 1048576 - 1048576)) (0, 0) _ rfl (rstore hz.hR _ _ _ _ _) Tryd.underlying23 rfl (by kernel_rfl)) rfl ⟨by rw [H1.out], rbelow0 hbb h.size _ _ _ _ _⟩
    · have H1 := Lib.hid (HP.trans (if_neg fun h => hvW h.2))
      have hq : (v != W) = true := by simpa using hvW
      clear HP hvW
      go_wp2_with fail
      exact bodyPost_ret (results_cell_row (p := 2) rfl _ _ w.heap.size 23 (insV 0 0 0 0 0) (0, 0) _ rfl (rstore hz.hR _ _ _ _ _) Tryd.underlying23 rfl (by kernel_rfl)) rfl ⟨by rw [H1.out], rbelow0 hbb h.size _ _ _ _ _⟩
  · have H1 := Lib.hid (HP.trans (if_neg fun h => by have := h.1; omega))
    clear HP
    go_wp2_with fail
    exact bodyPost_ret (results_cell_row (p := 2) rfl _ _ w.heap.size 23 (insV 0 0 0 0 0) (0, 0) _ rfl (rstore hz.hR _ _ _ _ _) Tryd.underlying23 rfl (by kernel_rfl)) rfl ⟨by rw [H1.out], rbelow0 hbb h.size _ _ _ _ _⟩

set_option maxHeartbeats 2000000 in
theorem rdec_j_lo (w0 w : World) (h : Below w0.heap.size w0 w) (W : Int) (hW0 : 0 ≤ W) (hW1 : W < 4294967296) (hj : hasF (fm (W / 16777216)) 106 = true) (hc : W % 1048576 < 524288) :
    Calls Tryd.prog 14 #[.int .u32 W] w fun e w' => e = .returned (.agg (pickI (W / 16777216) (W / 1048576 % 16) 0 0 (W % 1048576) W)) ∧ Below w0.heap.size w0 w' := by
  have hS := fm_size (W / 16777216)
  have hm0 : 0 ≤ W % 1048576 := by omega
  have hm1 : W % 1048576 < 1048576 := by omega
  go_enter Tryd.func14, Tryd.ntmps14
  go_wp2_with (first | (go_at_call 18; refine (rform_any _ _).mono ?_; rintro e w' ⟨rfl, rfl⟩) | (go_at_call 23; refine (has_any _ hS _ _).mono ?_; rintro e w' ⟨rfl, rfl⟩))
  obtain ⟨v, hv⟩ : ∃ v, encW (W / 16777216) (W / 1048576 % 16) 0 0 (W % 1048576) = v := ⟨_, rfl⟩
  obtain ⟨x, hx⟩ : ∃ x, encE (W / 16777216) (W / 1048576 % 16) 0 0 (W % 1048576) = x := ⟨_, rfl⟩
  have HP := pick_eq (W := W) hv hx
  refine (renc_at w0 w h _ _ _ _ _ v x hv hx).mono ?_
  rintro e z ⟨rfl, hz⟩
  obtain ⟨⟨k0, k1, k2, k3, k4⟩, ⟨r0, r1, r2, r3, r4⟩, ⟨g0, g1, g2, g3, g4⟩⟩ := hz.cells
  have hx2 := enc_e hx
  clear hv hx
  have hbb := hz.bel
  rcases hx2 with rfl | rfl
  · by_cases hvW : v = W
    · subst hvW
      have H1 := Lib.hid (HP.trans (if_pos ⟨rfl, rfl⟩))
      clear HP
      go_wp2_with fail
      exact bodyPost_ret (results_cell_row (p := 2) rfl _ _ w.heap.size 23 (insV (v / 16777216) (v / 1048576 % 16) 0 0 (v % 1048576)) (0, 0) _ rfl (rstore hz.hR _ _ _ _ _) Tryd.underlying23 rfl (by kernel_rfl)) rfl ⟨by rw [H1.out], rbelow0 hbb h.size _ _ _ _ _⟩
    · have H1 := Lib.hid (HP.trans (if_neg fun h => hvW h.2))
      have hq : (v != W) = true := by simpa using hvW
      clear HP hvW
      go_wp2_with fail
      exact bodyPost_ret (results_cell_row (p := 2) rfl _ _ w.heap.size 23 (insV 0 0 0 0 0) (0, 0) _ rfl (rstore hz.hR _ _ _ _ _) Tryd.underlying23 rfl (by kernel_rfl)) rfl ⟨by rw [H1.out], rbelow0 hbb h.size _ _ _ _ _⟩
  · have H1 := Lib.hid (HP.trans (if_neg fun h => by have := h.1; omega))
    clear HP
    go_wp2_with fail
    exact bodyPost_ret (results_cell_row (p := 2) rfl _ _ w.heap.size 23 (insV 0 0 0 0 0) (0, 0) _ rfl (rstore hz.hR _ _ _ _ _) Tryd.underlying23 rfl (by kernel_rfl)) rfl ⟨by rw [H1.out], rbelow0 hbb h.size _ _ _ _ _⟩

set_option maxHeartbeats 2000000 in
theorem rdec_n_hi (w0 w : World) (h : Below w0.heap.size w0 w) (W : Int) (hW0 : 0 ≤ W) (hW1 : W < 4294967296) (hj : hasF (fm (W / 16777216)) 106 = false) (hc : 2048 ≤ W % 4096) :
    Calls Tryd.prog 14 #[.int .u32 W] w fun e w' => e = .returned (.agg (pickI (W / 16777216) (W / 1048576 % 16) (W / 65536 % 16) (W / 4096 % 16) (W % 4096 - 4096) W)) ∧ Below w0.heap.size w0 w' := by
  have hS := fm_size (W / 16777216)
  have hm0 : 0 ≤ W % 4096 := by omega
  have hm1 : W % 4096 < 4096 := by omega
  go_enter Tryd.func14, Tryd.ntmps14
  go_wp2_with (first | (go_at_call 18; refine (rform_any _ _).mono ?_; rintro e w' ⟨rfl, rfl⟩) | (go_at_call 23; refine (has_any _ hS _ _).mono ?_; rintro e w' ⟨rfl, rfl⟩))
  obtain ⟨v, hv⟩ : ∃ v, encW (W / 16777216) (W / 1048576 % 16) (W / 65536 % 16) (W / 4096 % 16) (W % 4096 - 4096) = v := ⟨_, rfl⟩
  obtain ⟨x, hx⟩ : ∃ x, encE (W / 16777216) (W / 1048576 % 16) (W / 65536 % 16) (W / 4096 % 16) (W % 4096 - 4096) = x := ⟨_, rfl⟩
  have HP := pick_eq (W := W) hv hx
  refine (renc_at w0 w h _ _ _ _ _ v x hv hx).mono ?_
  rintro e z ⟨rfl, hz⟩
  obtain ⟨⟨k0, k1, k2, k3, k4⟩, ⟨r0, r1, r2, r3, r4⟩, ⟨g0, g1, g2, g3, g4⟩⟩ := hz.cells
  have hx2 := enc_e hx
  clear hv hx
  have hbb := hz.bel
  rcases hx2 with rfl | rfl
  · by_cases hvW : v = W
    · subst hvW
      have H1 := Lib.hid (HP.trans (if_pos ⟨rfl, rfl⟩))
      clear HP
      go_wp2_with fail
      exact bodyPost_ret (results_cell_row (p := 2) rfl _ _ w.heap.size 23 (insV (v / 16777216) (v / 1048576 % 16) (v / 65536 % 16) (v / 4096 % 16) (v % 4096 - 4096)) (0, 0) _ rfl (rstore hz.hR _ _ _ _ _) Tryd.underlying23 rfl (by kernel_rfl)) rfl ⟨by rw [H1.out], rbelow0 hbb h.size _ _ _ _ _⟩
    · have H1 := Lib.hid (HP.trans (if_neg fun h => hvW h.2))
      have hq : (v != W) = true := by simpa using hvW
      clear HP hvW
      go_wp2_with fail
      exact bodyPost_ret (results_cell_row (p := 2) rfl _ _ w.heap.size 23 (insV 0 0 0 0 0) (0, 0) _ rfl (rstore hz.hR _ _ _ _ _) Tryd.underlying23 rfl (by kernel_rfl)) rfl ⟨by rw [H1.out], rbelow0 hbb h.size _ _ _ _ _⟩
  · have H1 := Lib.hid (HP.trans (if_neg fun h => by have := h.1; omega))
    clear HP
    go_wp2_with fail
    exact bodyPost_ret (results_cell_row (p := 2) rfl _ _ w.heap.size 23 (insV 0 0 0 0 0) (0, 0) _ rfl (rstore hz.hR _ _ _ _ _) Tryd.underlying23 rfl (by kernel_rfl)) rfl ⟨by rw [H1.out], rbelow0 hbb h.size _ _ _ _ _⟩

set_option maxHeartbeats 2000000 in
theorem rdec_n_lo (w0 w : World) (h : Below w0.heap.size w0 w) (W : Int) (hW0 : 0 ≤ W) (hW1 : W < 4294967296) (hj : hasF (fm (W / 16777216)) 106 = false) (hc : W % 4096 < 2048) :
    Calls Tryd.prog 14 #[.int .u32 W] w fun e w' => e = .returned (.agg (pickI (W / 16777216) (W / 1048576 % 16) (W / 65536 % 16) (W / 4096 % 16) (W % 4096) W)) ∧ Below w0.heap.size w0 w' := by
  have hS := fm_size (W / 16777216)
  have hm0 : 0 ≤ W % 4096 := by omega
  have hm1 : W % 4096 < 4096 := by omega
  go_enter Tryd.func14, Tryd.ntmps14
  go_wp2_with (first | (go_at_call 18; refine (rform_any _ _).mono ?_; rintro e w' ⟨rfl, rfl⟩) | (go_at_call 23; refine (has_any _ hS _ _).mono ?_; rintro e w' ⟨rfl, rfl⟩))
  obtain ⟨v, hv⟩ : ∃ v, encW (W / 16777216) (W / 1048576 % 16) (W / 65536 % 16) (W / 4096 % 16) (W % 4096) = v := ⟨_, rfl⟩
  obtain ⟨x, hx⟩ : ∃ x, encE (W / 16777216) (W / 1048576 % 16) (W / 65536 % 16) (W / 4096 % 16) (W % 4096) = x := ⟨_, rfl⟩
  have HP := pick_eq (W := W) hv hx
  refine (renc_at w0 w h _ _ _ _ _ v x hv hx).mono ?_
  rintro e z ⟨rfl, hz⟩
  obtain ⟨⟨k0, k1, k2, k3, k4⟩, ⟨r0, r1, r2, r3, r4⟩, ⟨g0, g1, g2, g3, g4⟩⟩ := hz.cells
  have hx2 := enc_e hx
  clear hv hx
  have hbb := hz.bel
  rcases hx2 with rfl | rfl
  · by_cases hvW : v = W
    · subst hvW
      have H1 := Lib.hid (HP.trans (if_pos ⟨rfl, rfl⟩))
      clear HP
      go_wp2_with fail
      exact bodyPost_ret (results_cell_row (p := 2) rfl _ _ w.heap.size 23 (insV (v / 16777216) (v / 1048576 % 16) (v / 65536 % 16) (v / 4096 % 16) (v % 4096)) (0, 0) _ rfl (rstore hz.hR _ _ _ _ _) Tryd.underlying23 rfl (by kernel_rfl)) rfl ⟨by rw [H1.out], rbelow0 hbb h.size _ _ _ _ _⟩
    · have H1 := Lib.hid (HP.trans (if_neg fun h => hvW h.2))
      have hq : (v != W) = true := by simpa using hvW
      clear HP hvW
      go_wp2_with fail
      exact bodyPost_ret (results_cell_row (p := 2) rfl _ _ w.heap.size 23 (insV 0 0 0 0 0) (0, 0) _ rfl (rstore hz.hR _ _ _ _ _) Tryd.underlying23 rfl (by kernel_rfl)) rfl ⟨by rw [H1.out], rbelow0 hbb h.size _ _ _ _ _⟩
  · have H1 := Lib.hid (HP.trans (if_neg fun h => by have := h.1; omega))
    clear HP
    go_wp2_with fail
    exact bodyPost_ret (results_cell_row (p := 2) rfl _ _ w.heap.size 23 (insV 0 0 0 0 0) (0, 0) _ rfl (rstore hz.hR _ _ _ _ _) Tryd.underlying23 rfl (by kernel_rfl)) rfl ⟨by rw [H1.out], rbelow0 hbb h.size _ _ _ _ _⟩
end Go.Proofs.YtoaneiidomdljaaDoor
