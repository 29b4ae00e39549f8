/- What the function literals of isa.Decode answer. -/
import Derived.Test.YtoaneiidomdljaaDoorEncIn
import Derived.Deep.QuietTactic
namespace Go.Proofs.YtoaneiidomdljaaDoor
open Go.RowKit Go.Shelf

/-- bits of a word: b of them, from p on -/
def tkv (W p b : Int) : Int := W / 2 ^ p.toNat % 2 ^ b.toNat
def tkOk (p b : Int) : Prop := (p = 20 ∧ b = 4) ∨ (p = 16 ∧ b = 4) ∨ (p = 12 ∧ b = 4) ∨ (p = 0 ∧ b = 12) ∨ (p = 11 ∧ b = 1) ∨ (p = 0 ∧ b = 20) ∨ (p = 19 ∧ b = 1)

theorem mk_15 (x : Int) (h0 : 0 ≤ x) (h1 : x < 4294967296) : wrap64 (bits .and .u32 x 15) = x % 16 := by
  rw [u32_and _ _ h0 h1 (by omega) (by omega), show (15 : Int).toNat = 15 from rfl, nat_mask4]; unfold wrap64; omega
theorem mk_1 (x : Int) (h0 : 0 ≤ x) (h1 : x < 4294967296) : wrap64 (bits .and .u32 x 1) = x % 2 := by
  rw [u32_and _ _ h0 h1 (by omega) (by omega), show (1 : Int).toNat = 1 from rfl, nat_mask1]; unfold wrap64; omega
theorem mk_4095 (x : Int) (h0 : 0 ≤ x) (h1 : x < 4294967296) : wrap64 (bits .and .u32 x 4095) = x % 4096 := by
  rw [u32_and _ _ h0 h1 (by omega) (by omega), show (4095 : Int).toNat = 4095 from rfl, nat_mask12]; unfold wrap64; omega
theorem mk_1048575 (x : Int) (h0 : 0 ≤ x) (h1 : x < 4294967296) : wrap64 (bits .and .u32 x 1048575) = x % 1048576 := by
  rw [u32_and _ _ h0 h1 (by omega) (by omega), show (1048575 : Int).toNat = 1048575 from rfl, nat_mask20]; unfold wrap64; omega

theorem ret_i {a b : Int} (h : a = b) : Ending.returned (.int .i64 a) = .returned (.int .i64 b) := by rw [h]

/-- take: bits of a word -/
theorem take_any (w : World) (C : Nat) (W p b : Int) (hc : w.cell? ⟨C, 0, none⟩ = some (.int .u32 W)) (hW0 : 0 ≤ W) (hW1 : W < 4294967296) (hv : tkOk p b) :
    Calls Tryd.prog 24 #[.int .i64 p, .int .i64 b, .pointer (some ⟨C, 0, none⟩)] w fun e w' => e = .returned (.int .i64 (tkv W p b)) ∧ ∃ n, w' = w.drewN n := by
  rcases hv with ⟨rfl, rfl⟩ | ⟨rfl, rfl⟩ | ⟨rfl, rfl⟩ | ⟨rfl, rfl⟩ | ⟨rfl, rfl⟩ | ⟨rfl, rfl⟩ | ⟨rfl, rfl⟩
  · go_enter Tryd.func24, Tryd.ntmps24
    go_wp2
    go_quiet (fail)
    go_wp2
    go_ret
    exact ⟨ret_i (mk_15 (W / 1048576) (by omega) (by omega)), _, rfl⟩
  · go_enter Tryd.func24, Tryd.ntmps24
    go_wp2
    go_quiet (fail)
    go_wp2
    go_ret
    exact ⟨ret_i (mk_15 (W / 65536) (by omega) (by omega)), _, rfl⟩
  · go_enter Tryd.func24, Tryd.ntmps24
    go_wp2
    go_quiet (fail)
    go_wp2
    go_ret
    exact ⟨ret_i (mk_15 (W / 4096) (by omega) (by omega)), _, rfl⟩
  · go_enter Tryd.func24, Tryd.ntmps24
    go_wp2
    go_quiet (fail)
    go_wp2
    go_ret
    exact ⟨ret_i ((mk_4095 W (by omega) (by omega)).trans (by unfold tkv; rw [show W / 2 ^ (0 : Int).toNat = W from Int.ediv_one W]; rfl)), _, rfl⟩
  · go_enter Tryd.func24, Tryd.ntmps24
    go_wp2
    go_quiet (fail)
    go_wp2
    go_ret
    exact ⟨ret_i (mk_1 (W / 2048) (by omega) (by omega)), _, rfl⟩
  · go_enter Tryd.func24, Tryd.ntmps24
    go_wp2
    go_quiet (fail)
    go_wp2
    go_ret
    exact ⟨ret_i ((mk_1048575 W (by omega) (by omega)).trans (by unfold tkv; rw [show W / 2 ^ (0 : Int).toNat = W from Int.ediv_one W]; rfl)), _, rfl⟩
  · go_enter Tryd.func24, Tryd.ntmps24
    go_wp2
    go_quiet (fail)
    go_wp2
    go_ret
    exact ⟨ret_i (mk_1 (W / 524288) (by omega) (by omega)), _, rfl⟩

/-- signed: the lowest bits of a word, as a number with a sign -/
def sgv (W b : Int) : Int := tkv W 0 b - tkv W (b - 1) 1 * 2 ^ b.toNat

theorem signed_any (w : World) (C D : Nat) (W b : Int) (hc : w.cell? ⟨C, 0, none⟩ = some (.int .u32 W)) (hd : w.cell? ⟨D, 0, none⟩ = some (.func (.func 24) #[] #[.pointer (some ⟨C, 0, none⟩)])) (hW0 : 0 ≤ W) (hW1 : W < 4294967296) (hb : b = 12 ∨ b = 20) :
    Calls Tryd.prog 25 #[.int .i64 b, .pointer (some ⟨D, 0, none⟩)] w fun e w' => e = .returned (.int .i64 (sgv W b)) ∧ ∃ n, w' = w.drewN n := by
  rcases hb with rfl | rfl
  · have x1 : 0 ≤ tkv W 0 12 ∧ tkv W 0 12 < 4096 := by unfold tkv; simp only [show (12 : Int).toNat = 12 from rfl, Int.reducePow]; omega
    have x2 : 0 ≤ tkv W 11 1 ∧ tkv W 11 1 ≤ 1 := by unfold tkv; simp only [show (1 : Int).toNat = 1 from rfl, Int.reducePow]; omega
    obtain ⟨x1, x3⟩ := x1
    obtain ⟨x2, x4⟩ := x2
    go_enter Tryd.func25, Tryd.ntmps25
    go_wp2
    go_quiet (first | (go_at_call 24; refine Calls.quiet_of (take_any _ C W _ _ ?_ hW0 hW1 (by unfold tkOk; omega)); exact hc))
    go_wp2
    go_ret
    exact ⟨ret_i rfl, _, rfl⟩
  · have x1 : 0 ≤ tkv W 0 20 ∧ tkv W 0 20 < 1048576 := by unfold tkv; simp only [show (20 : Int).toNat = 20 from rfl, Int.reducePow]; omega
    have x2 : 0 ≤ tkv W 19 1 ∧ tkv W 19 1 ≤ 1 := by unfold tkv; simp only [show (1 : Int).toNat = 1 from rfl, Int.reducePow]; omega
    obtain ⟨x1, x3⟩ := x1
    obtain ⟨x2, x4⟩ := x2
    go_enter Tryd.func25, Tryd.ntmps25
    go_wp2
    go_quiet (first | (go_at_call 24; refine Calls.quiet_of (take_any _ C W _ _ ?_ hW0 hW1 (by unfold tkOk; omega)); exact hc))
    go_wp2
    go_ret
    exact ⟨ret_i rfl, _, rfl⟩

/-- isa.Decode's variables: the word, the result, the instruction, the function value; a string's iterator -/
structure SD (w0 w : World) (C D : Nat) (o : Obj) (op a b c m W : Int) : Prop where
  le : w0.heap.size ≤ C
  hC : w.heap[C]? = some (.cells #[.int .u32 W] 24 (0, 0))
  hR : w.heap[C + 1]? = some (.cells (insV 0 0 0 0 0) 23 (0, 0))
  hI : w.heap[C + 1 + 1]? = some (.cells (insV op a b c m) 23 (0, 0))
  hF : w.heap[C + 1 + 1 + 1]? = some (.cells #[.func (.func 24) #[] #[.pointer (some ⟨C, 0, none⟩)]] 43 (0, 0))
  ltD : C + 1 + 1 + 1 < D
  it : w.heap[D]? = some o
  bel : Below w0.heap.size w0 w

theorem SD.cells {w0 w : World} {C D : Nat} {o : Obj} {op a b c m W : Int} (h : SD w0 w C D o op a b c m W) :
    w.cell? ⟨C, 0, none⟩ = some (.int .u32 W) ∧ w.cell? ⟨C + 1 + 1 + 1, 0, none⟩ = some (.func (.func 24) #[] #[.pointer (some ⟨C, 0, none⟩)]) ∧
    (w.cell? ⟨C + 1 + 1, 0, none⟩ = some (.int .i64 op) ∧ w.cell? ⟨C + 1 + 1, 1, none⟩ = some (.int .i64 a) ∧ w.cell? ⟨C + 1 + 1, 2, none⟩ = some (.int .i64 b) ∧ w.cell? ⟨C + 1 + 1, 3, none⟩ = some (.int .i64 c) ∧ w.cell? ⟨C + 1 + 1, 4, none⟩ = some (.int .i64 m)) ∧
    (w.frozen? ⟨C + 1 + 1, 1, none⟩ = false ∧ w.frozen? ⟨C + 1 + 1, 2, none⟩ = false ∧ w.frozen? ⟨C + 1 + 1, 3, none⟩ = false ∧ w.frozen? ⟨C + 1 + 1, 4, none⟩ = false) :=
  ⟨cell_of_one h.hC, cell_of_one h.hF, ⟨(cell_of_row w _ 0 _ _ _ h.hI).trans rfl, (cell_of_row w _ 1 _ _ _ h.hI).trans rfl, (cell_of_row w _ 2 _ _ _ h.hI).trans rfl, (cell_of_row w _ 3 _ _ _ h.hI).trans rfl, (cell_of_row w _ 4 _ _ _ h.hI).trans rfl⟩,
    frozen_of_row h.hI 1, frozen_of_row h.hI 2, frozen_of_row h.hI 3, frozen_of_row h.hI 4⟩

theorem SD.put {w0 w : World} {C D : Nat} {o : Obj} {op a b c m W op' a' b' c' m' : Int} (h : SD w0 w C D o op a b c m W) (j : Nat) (v : Int) (n : Nat) (hj : (insV op a b c m).setIfInBounds j (.int .i64 v) = insV op' a' b' c' m') :
    SD w0 ((w.drewN n).setCell ⟨C + 1 + 1, j, none⟩ (.int .i64 v)) C D o op' a' b' c' m' W := by
  have hle := h.le
  have hlt := h.ltD
  refine ⟨h.le, ?_, ?_, ?_, ?_, h.ltD, ?_, (drewN_below h.bel n).setCell (show w0.heap.size ≤ C + 1 + 1 by omega) _⟩
  · rw [heap_setCell_other _ _ _ _ (show C ≠ C + 1 + 1 by omega)]; exact h.hC
  · rw [heap_setCell_other _ _ _ _ (show C + 1 ≠ C + 1 + 1 by omega)]; exact h.hR
  · exact (heap_setCell_same (w.drewN n) _ j (insV op a b c m) 23 _ h.hI).trans (by rw [hj])
  · rw [heap_setCell_other _ _ _ _ (show C + 1 + 1 + 1 ≠ C + 1 + 1 by omega)]; exact h.hF
  · rw [heap_setCell_other _ _ _ _ (show D ≠ C + 1 + 1 by omega)]; exact h.it

theorem SD.keep {w0 w w' : World} {C D : Nat} {o : Obj} {op a b c m W : Int} (h : SD w0 w C D o op a b c m W) (hb : Below w.heap.size w w') : SD w0 w' C D o op a b c m W :=
  ⟨h.le, by rw [hb.block _ (lt_of_block h.hC)]; exact h.hC, by rw [hb.block _ (lt_of_block h.hR)]; exact h.hR, by rw [hb.block _ (lt_of_block h.hI)]; exact h.hI, by rw [hb.block _ (lt_of_block h.hF)]; exact h.hF, h.ltD,
    by rw [hb.block _ (lt_of_block h.it)]; exact h.it, h.bel.trans (hb.mono h.bel.size)⟩

theorem SD.nx {w0 w : World} {C D : Nat} {S : ByteArray} {p : Nat} {op a b c m W : Int} (h : SD w0 w C D (.stringIter S p) op a b c m W) (p' : Nat) (I L : Int) (hI : (p : Int) = I) (hp' : p + 1 = p') (hp : p < S.size) (ha : (S[p]'hp).toNat < 128) (hL : ((S[p]'hp).toNat : Int) = L) :
    ∃ w' : World, (∀ ty, (Instr.next (.pointer (some ⟨D, 0, none⟩)) true ty).run Tryd.prog w = .ok (.tuple #[.bool true, .int .i64 I, .int .i32 L]) w') ∧ SD w0 w' C D (.stringIter S p') op a b c m W := by
  subst hL hI hp'
  have h2 := h.ltD
  have h3 := h.le
  refine ⟨w.iterAt D S (p + 1), fun ty => Lib.run_next_ascii_at w D S p ty h.it hp ha, h.le, ?_, ?_, ?_, ?_, h.ltD, Lib.iterAt_heap _ _ _ _ _ h.it, Lib.below_iterAt h.bel (by omega) _ _⟩
  · rw [Lib.iterAt_other _ _ _ _ _ (by omega)]; exact h.hC
  · rw [Lib.iterAt_other _ _ _ _ _ (by omega)]; exact h.hR
  · rw [Lib.iterAt_other _ _ _ _ _ (by omega)]; exact h.hI
  · rw [Lib.iterAt_other _ _ _ _ _ (by omega)]; exact h.hF

theorem SD.nxe {w0 w : World} {C D : Nat} {S : ByteArray} {p : Nat} {op a b c m W : Int} (h : SD w0 w C D (.stringIter S p) op a b c m W) (hp : ¬ p < S.size) :
    ∀ ty, (Instr.next (.pointer (some ⟨D, 0, none⟩)) true ty).run Tryd.prog w = .ok (.tuple #[.bool false]) w :=
  fun ty => Lib.run_next_end_at w D S p ty h.it hp

/-- Form's call in Decode -/
theorem dform_st (w0 w : World) (W op : Int) (h : Below w0.heap.size w0 w) (ht : Tab w0) (x : ByteArray) (hx : fm op = x) :
    Calls Tryd.prog 15 #[.int .i64 op] ((((w.alloc (.cells #[.int .u32 W] 24)).alloc (.cells (insV 0 0 0 0 0) 23)).alloc (.cells (insV op 0 0 0 0) 23)).alloc (.cells #[.func (.func 24) #[] #[.pointer (some ⟨w.heap.size, 0, none⟩)]] 43)) fun e w' =>
      e = .returned (.string x) ∧ SD w0 (w'.iter x 0) w.heap.size w'.heap.size (.stringIter x 0) op 0 0 0 0 W := by
  subst hx
  generalize hu1 : w.alloc (.cells #[.int .u32 W] 24) = u1
  generalize hu2 : u1.alloc (.cells (insV 0 0 0 0 0) 23) = u2
  generalize hu3 : u2.alloc (.cells (insV op 0 0 0 0) 23) = u3
  generalize hu4 : u3.alloc (.cells #[.func (.func 24) #[] #[.pointer (some ⟨w.heap.size, 0, none⟩)]] 43) = u4
  have s1 : u1.heap.size = w.heap.size + 1 := by rw [← hu1]; exact World.size_alloc _ _
  have s2 : u2.heap.size = w.heap.size + 1 + 1 := by rw [← hu2, World.size_alloc, s1]
  have s3 : u3.heap.size = w.heap.size + 1 + 1 + 1 := by rw [← hu3, World.size_alloc, s2]
  have s4 : u4.heap.size = w.heap.size + 1 + 1 + 1 + 1 := by rw [← hu4, World.size_alloc, s3]
  have hsz := h.size
  have b1 : Below w0.heap.size w0 u1 := by rw [← hu1]; exact h.alloc h.size _
  have b2 : Below w0.heap.size w0 u2 := by rw [← hu2]; exact b1.alloc b1.size _
  have b3 : Below w0.heap.size w0 u3 := by rw [← hu3]; exact b2.alloc b2.size _
  have b4 : Below w0.heap.size w0 u4 := by rw [← hu4]; exact b3.alloc b3.size _
  have e1 : u1.heap[w.heap.size]? = some (.cells #[.int .u32 W] 24 (0, 0)) := by rw [← hu1]; exact heap_alloc_new _ _
  have e2 : u2.heap[w.heap.size + 1]? = some (.cells (insV 0 0 0 0 0) 23 (0, 0)) := by rw [← hu2, ← s1]; exact heap_alloc_new _ _
  have e3 : u3.heap[w.heap.size + 1 + 1]? = some (.cells (insV op 0 0 0 0) 23 (0, 0)) := by rw [← hu3, ← s2]; exact heap_alloc_new _ _
  have e4 : u4.heap[w.heap.size + 1 + 1 + 1]? = some (.cells #[.func (.func 24) #[] #[.pointer (some ⟨w.heap.size, 0, none⟩)]] 43 (0, 0)) := by rw [← hu4, ← s3]; exact heap_alloc_new _ _
  have o2 : ∀ k, k < u1.heap.size → u2.heap[k]? = u1.heap[k]? := fun k hk => by rw [← hu2]; exact Below.heap_alloc _ _ _ hk
  have o3 : ∀ k, k < u2.heap.size → u3.heap[k]? = u2.heap[k]? := fun k hk => by rw [← hu3]; exact Below.heap_alloc _ _ _ hk
  have o4 : ∀ k, k < u3.heap.size → u4.heap[k]? = u3.heap[k]? := fun k hk => by rw [← hu4]; exact Below.heap_alloc _ _ _ hk
  clear hu1 hu2 hu3 hu4
  refine (form_in _ _ (Below.refl _ _) (ht.below b4) op).mono ?_
  rintro e w' ⟨rfl, hb'⟩
  have hsz' := hb'.size
  refine ⟨rfl, h.size, ?_, ?_, ?_, ?_, by omega, heap_alloc_new _ _, (b4.trans (hb'.mono b4.size)).alloc (by omega) _⟩
  · show (w'.alloc _).heap[w.heap.size]? = _
    rw [Below.heap_alloc _ _ _ (by omega), hb'.block _ (by omega), o4 _ (by omega), o3 _ (by omega), o2 _ (by omega)]; exact e1
  · show (w'.alloc _).heap[w.heap.size + 1]? = _
    rw [Below.heap_alloc _ _ _ (by omega), hb'.block _ (by omega), o4 _ (by omega), o3 _ (by omega)]; exact e2
  · show (w'.alloc _).heap[w.heap.size + 1 + 1]? = _
    rw [Below.heap_alloc _ _ _ (by omega), hb'.block _ (by omega), o4 _ (by omega)]; exact e3
  · show (w'.alloc _).heap[w.heap.size + 1 + 1 + 1]? = _
    rw [Below.heap_alloc _ _ _ (by omega), hb'.block _ (by omega)]; exact e4

/-- Encode's call in Decode -/
theorem denc_st {w0 w : World} {C D : Nat} {o : Obj} {op a b c m W : Int} (h : SD w0 w C D o op a b c m W) (ht : Tab w0) :
    Calls Tryd.prog 10 #[.agg (insV op a b c m)] w fun e w' => e = .returned (.tuple #[.int .u32 (encW op a b c m), .int .i64 (encE op a b c m)]) ∧ SD w0 w' C D o op a b c m W := by
  refine (enc_in w w (Below.refl _ _) (ht.below h.bel) op a b c m).mono ?_
  rintro e w' ⟨rfl, hb⟩
  exact ⟨rfl, h.keep hb⟩
end Go.Proofs.YtoaneiidomdljaaDoor
