/- What sched.Ready answers: the numbers of the harts that run, rising, and behind them the sweeper's, in new memory; for every slice of states. -/
import Derived.Test.YtcgjijcjgchhiaaRows
import Derived.WalkKit
import Derived.WalkLawsBesides
import Derived.RangeFuncWrites
import Derived.RangeFuncLeaves
import Derived.RangeFuncBox
import Derived.Shelf.Abstract
import Derived.OwnWalkIn
import Derived.TacticsInMore
import Derived.LoopNIn
import Derived.LoopIn
import Derived.Lib.Hide
import Derived.Maps.AppendAt
namespace Go.Proofs.Ytcgjijcjgchhiaa
open Go.RowKit Go.Shelf

attribute [local go_sem] Oper.semAt_some

/-- the agents that are ready among the first k -/
def rdTo (zs : List Int) (k : Nat) : List Int := ((List.range k).filter fun i => zs.getD i 0 == 0).map fun (i : Nat) => (i : Int)
def rd (zs : List Int) (sw : Bool) : List Int := rdTo zs zs.length ++ (if sw then [(zs.length : Int)] else [])

theorem rdTo_succ (zs : List Int) (k : Nat) : rdTo zs (k + 1) = rdTo zs k ++ (if zs.getD k 0 == 0 then [(k : Int)] else []) := by
  unfold rdTo
  rw [List.range_succ, List.filter_append, List.map_append]
  congr 1
  rw [List.filter_cons, List.filter_nil]
  split <;> rfl
theorem rdTo_len (zs : List Int) (k : Nat) : (rdTo zs k).length ≤ k := by
  unfold rdTo
  rw [List.length_map]
  exact Nat.le_trans (List.length_filter_le _ _) (by simp)

/-- a slice of ints that reads as a list (below block number n) -/
def Reads (n : Nat) (W : World) (a : Option Addr) (zs : List Int) : Prop :=
  zs = [] ∨ ∃ b o, a = some ⟨b, o, none⟩ ∧ b < n ∧ ∀ i, i < zs.length → W.cell? ⟨b, o + i, none⟩ = some (.int .i64 (zs.getD i 0))

/-- what a loop's body keeps: all that lies below n, and two boxes -/
def Keeps (n B1 B2 : Nat) (A B : World) : Prop := Below n A B ∧ B.heap[B1]? = A.heap[B1]? ∧ B.heap[B2]? = A.heap[B2]?
theorem Keeps.refl (n B1 B2 : Nat) (A : World) : Keeps n B1 B2 A A := ⟨Below.refl _ _, rfl, rfl⟩
theorem Keeps.trans {n B1 B2 : Nat} {A B C : World} (h : Keeps n B1 B2 A B) (k : Keeps n B1 B2 B C) : Keeps n B1 B2 A C := ⟨h.1.trans k.1, k.2.1.trans h.2.1, k.2.2.trans h.2.2⟩
theorem Keeps.c1 {n B1 B2 : Nat} {A B : World} (h : Keeps n B1 B2 A B) : B.cell? ⟨B1, 0, none⟩ = A.cell? ⟨B1, 0, none⟩ := World.cell?_of_block (w := A) h.2.1
theorem Keeps.c2 {n B1 B2 : Nat} {A B : World} (h : Keeps n B1 B2 A B) : B.cell? ⟨B2, 0, none⟩ = A.cell? ⟨B2, 0, none⟩ := World.cell?_of_block (w := A) h.2.2

set_option maxRecDepth 100000 in
set_option maxHeartbeats 1000000 in
theorem agents1_in (F : Fence) (n : Nat) (h21 : F.fn 21) (hro : F.round = none) (hn : 1 ≤ n) (l Bs Bw n₀ : Nat) (a : Option Addr) (cap : Nat) (zs : List Int) (sw : Bool) (J Jx : List Int → World → Prop)
    (hlen : zs.length ≤ 1000000)
    (hY : ∀ pre x W, J pre W → pre.length < zs.length + 1 → YieldAt F (n - 1) Try.prog l #[.int .i64 x] W fun e W' =>
      (e = .returned (.bool true) ∧ J (pre ++ [x]) W' ∧ Keeps n₀ Bs Bw W W') ∨ (e = .returned (.bool false) ∧ Jx (pre ++ [x]) W'))
    (W : World) (hBs : W.cell? ⟨Bs, 0, none⟩ = some (.slice a zs.length cap)) (hBw : W.cell? ⟨Bw, 0, none⟩ = some (.bool sw)) (hL : Reads n₀ W a zs) (h0 : J [] W) :
    CallsIn F n Try.prog 21 #[.func (.yield l) #[] #[], .pointer (some ⟨Bs, 0, none⟩), .pointer (some ⟨Bw, 0, none⟩)] W fun e W' => (∃ v, e = .returned v) ∧
      ((∃ ys, ys = rd zs sw ∧ J ys W') ∨ (∃ pre : List Int, True ∧ Jx pre W')) := by
  refine callsIn_of_wp Try.func21 rfl h21 ?_ hro
  simp only [Try.ntmps21, List.size_toArray, List.length_cons, List.length_nil, Nat.reduceAdd, Nat.reduceSub, Array.replicate_succ, Array.replicate_zero, List.push_toArray, List.append_toArray, List.nil_append, List.cons_append]
  gi_wp2
  gi_loopw [8] (fun i wr => ∃ k : Nat, k ≤ zs.length ∧ i = .int .i64 k ∧ J (rdTo zs k) wr ∧ Keeps n₀ Bs Bw W wr) (fun i _ => zs.length - (intOf i).toNat)
  case atStart => exact ⟨0, Nat.zero_le _, rfl, h0, Keeps.refl _ _ _ _⟩
  case round =>
    obtain ⟨k, hk, rfl, hJ, hb⟩ := hrel
    have hk0 : (rdTo zs k).length < zs.length + 1 := by have := rdTo_len zs k; omega
    by_cases hlt : k < zs.length
    · rcases hL with rfl | ⟨b, o, rfl, hbn, hcell⟩
      · simp at hlt
      have hc : wr.cell? ⟨b, o + k, none⟩ = some (.int .i64 (zs.getD k 0)) := by rw [hb.1.cell (p := ⟨b, o + k, none⟩) hbn]; exact hcell k hlt
      have hsn := rdTo_succ zs k
      clear hcell
      generalize hx : zs.getD k 0 = x at hc hsn
      have HX := Lib.hid hx
      clear hx
      by_cases hx0 : (x == 0) = true
      · rw [if_pos hx0] at hsn
        have HS := Lib.hid hsn
        have HB := Lib.hid hb
        clear hsn hb
        obtain ⟨fn, tmps, assign, body, hy, hR⟩ := hY (rdTo zs k) k wr hJ hk0
        have HR := Lib.hid hR
        have HJ := Lib.hid hJ
        clear hR hJ hY
        gi_wp2
        refine HR.out.mono ?_
        rintro e W3 (⟨rfl, hJ3, hk3⟩ | ⟨rfl, hJx3⟩)
        · have HB3 := Lib.hid (HB.out.trans hk3)
          have HJ3 := Lib.hid hJ3
          clear hJ3 hk3
          gi_wp2
          go_roundw
          case rel => exact ⟨k + 1, by omega, by go_num, by rw [HS.out]; exact HJ3.out, HB3.out⟩
          case measure => simp [intOf]; omega
        · gi_wp2
          refine bodyPost_ret (results_none rfl _ _ _) rfl ?_
          exact ⟨⟨_, rfl⟩, .inr ⟨_, trivial, hJx3⟩⟩
      · rw [if_neg hx0, List.append_nil] at hsn
        have hx0' : (x == 0) = false := by simpa using hx0
        have HS := Lib.hid hsn
        have HB := Lib.hid hb
        have HJ := Lib.hid hJ
        clear hsn hb hx0 hJ hY
        gi_wp2
        refine ⟨(fun f h => by cases h), ?_⟩
        gi_wp2
        go_roundw
        case rel => exact ⟨k + 1, by omega, by go_num, by rw [HS.out]; exact HJ.out, HB.out⟩
        case measure => simp [intOf]; omega
    · obtain rfl : k = zs.length := by omega
      have HB := Lib.hid hb
      have cs : wr.cell? ⟨Bs, 0, none⟩ = some (.slice a zs.length cap) := by rw [hb.c1]; exact hBs
      have cw : wr.cell? ⟨Bw, 0, none⟩ = some (.bool sw) := by rw [hb.c2]; exact hBw
      clear hb
      cases sw with
      | false =>
        have HJ := Lib.hid hJ
        clear hJ hY
        gi_wp2
        go_end0
        exact ⟨⟨_, rfl⟩, .inl ⟨_, by simp [rd], HJ.out⟩⟩
      | true =>
        obtain ⟨fn, tmps, assign, body, hy, hR⟩ := hY (rdTo zs zs.length) zs.length wr hJ hk0
        have HR := Lib.hid hR
        have HJ := Lib.hid hJ
        clear hR hJ hY
        gi_wp2
        refine HR.out.mono ?_
        rintro e W3 (⟨rfl, hJ3, hk3⟩ | ⟨rfl, hJx3⟩)
        · gi_wp2
          go_end0
          exact ⟨⟨_, rfl⟩, .inl ⟨_, by simp [rd], hJ3⟩⟩
        · gi_wp2
          go_end0
          exact ⟨⟨_, rfl⟩, .inr ⟨_, trivial, hJx3⟩⟩

theorem info3 : (Try.prog.info? 3).map (fun i => (i.zero, i.size, i.bytes)) = some (some (.int .i64 0), 1, 8) := by kernel_rfl

set_option maxHeartbeats 1000000 in
theorem agents_in (F : Fence) (n : Nat) (h16 : F.fn 16) (hro : F.round = none) (v : Value) (sw : Bool) (hv : ∃ a l c, v = .slice a l c) (w : World) :
    CallsIn F n Try.prog 16 #[v, .bool sw] w fun e w' => e = .returned (.func (.func 21) #[] #[.pointer (some ⟨w.heap.size, 0, none⟩), .pointer (some ⟨w.heap.size + 1, 0, none⟩)]) ∧ w' = (w.alloc (.cells #[v] 22)).alloc (.cells #[.bool sw] 4) := by
  obtain ⟨a, l, c, rfl⟩ := hv
  refine callsIn_of_wp Try.func16 rfl h16 ?_ hro
  simp only [Try.ntmps16, List.size_toArray, List.length_cons, List.length_nil, Nat.reduceAdd, Nat.reduceSub, Array.replicate_succ, Array.replicate_zero, List.push_toArray, List.append_toArray, List.nil_append, List.cons_append]
  gi_wp2
  go_ret
  exact ⟨rfl, rfl⟩

theorem Reads.below {n : Nat} {A B : World} {a : Option Addr} {zs : List Int} (h : Reads n A a zs) (hb : Below n A B) : Reads n B a zs := by
  rcases h with h | ⟨b, o, ha, hn, hc⟩
  · exact .inl h
  · exact .inr ⟨b, o, ha, hn, fun i hi => by rw [hb.cell (p := ⟨b, o + i, none⟩) hn]; exact hc i hi⟩
theorem Reads.mono {n m : Nat} {A : World} {a : Option Addr} {zs : List Int} (h : Reads n A a zs) (hm : n ≤ m) : Reads m A a zs := by
  rcases h with h | ⟨b, o, ha, hn, hc⟩
  · exact .inl h
  · exact .inr ⟨b, o, ha, Nat.lt_of_lt_of_le hn hm, hc⟩

theorem agents_stops (F : Fence) (n : Nat) (h21 : F.fn 21) (hro : F.round = none) (hn : 1 ≤ n) (Bs Bw n₀ : Nat) (a : Option Addr) (cap : Nat) (zs : List Int) (sw : Bool) (hlen : zs.length ≤ 1000000) (w : World)
    (hBs : w.cell? ⟨Bs, 0, none⟩ = some (.slice a zs.length cap)) (hBw : w.cell? ⟨Bw, 0, none⟩ = some (.bool sw)) (hs0 : Bs < w.heap.size) (hw0 : Bw < w.heap.size) (hn₀ : n₀ ≤ w.heap.size) (hL : Reads n₀ w a zs) :
    SeqStopsK F n Try.prog 21 #[.pointer (some ⟨Bs, 0, none⟩), .pointer (some ⟨Bw, 0, none⟩)] (fun x : Int => #[Value.int .i64 x]) (Keeps n₀ Bs Bw) (fun ys => ys = rd zs sw) (fun _ => True) (zs.length + 1) w := fun l J Jx W hW _ _ hY h0 =>
  agents1_in F n h21 hro hn l Bs Bw n₀ a cap zs sw J Jx hlen hY W ((hW.cell (p := ⟨Bs, 0, none⟩) hs0).trans hBs) ((hW.cell (p := ⟨Bw, 0, none⟩) hw0).trans hBw) (hL.below (hW.mono hn₀)) h0

theorem row_base {W : World} {base base' : Nat} {e : TypeId} {size : Nat} {v : Value} {k : Nat} {xs : List Value} (h : W.ownsRow base e size v k xs) (hb : base' ≤ base) : W.ownsRow base' e size v k xs := by
  refine ⟨h.1, ?_⟩
  rcases h.2 with hn | ⟨g, cap, cur, hv, hbg, rest⟩
  · exact .inl hn
  · exact .inr ⟨g, cap, cur, hv, Nat.le_trans hb hbg, rest⟩

/-- behind an append to a row of the call's own and the store into the box: the two boxes behind it lie as they lay -/
theorem kept2 {W w1 : World} {B base : Nat} {e : TypeId} {size k : Nat} {v v' : Value} {xs : List Value} {tmp : Obj} (hrow : W.ownsRow base e size v k xs) (hgrow : (W.alloc tmp).grownBy w1 v.ownBlock)
    (j : Nat) (hj : j < base) (hjB : j ≠ B) (hjs : j < W.heap.size) : (w1.setCell ⟨B, 0, none⟩ v').heap[j]? = W.heap[j]? := by
  rw [Below.heap_setCell _ _ _ _ hjB]
  have h1 : some j ≠ v.ownBlock := fun e' => by
    have := (hrow.lt j e'.symm).1
    omega
  rw [hgrow.block j (by simp; omega) h1]
  exact Below.heap_alloc _ _ _ hjs

set_option maxRecDepth 100000 in
set_option maxHeartbeats 2000000 in
theorem ready_in (F : Fence) (n : Nat) (h9 : F.fn 9) (h16 : F.fn 16) (h21 : F.fn 21) (hro : F.round = none) (hn : 3 ≤ n) (a : Option Addr) (cap : Nat) (zs : List Int) (sw : Bool) (hlen : zs.length ≤ 1000000) (w : World) (hL : Reads w.heap.size w a zs) :
    CallsIn F n Try.prog 9 #[.slice a zs.length cap, .bool sw] w fun e W' => ∃ v, e = .returned v ∧ W'.ownsRow w.heap.size 3 1 v (rd zs sw).length ((rd zs sw).map (Value.int .i64)) ∧ (v = .slice none 0 0 ↔ rd zs sw = []) ∧ Below w.heap.size w W' := by
  have h1 : 1 ≤ n := by omega
  obtain ⟨i0, hi, hz0, hz1, hz2⟩ := info_parts info3
  refine callsIn_of_wp_marks Try.func9 rfl h9 ?_ hro
  simp only [Try.ntmps9, List.size_toArray, List.length_cons, List.length_nil, Nat.reduceAdd, Nat.reduceSub, Array.replicate_succ, Array.replicate_zero, List.push_toArray, List.append_toArray, List.nil_append, List.cons_append]
  gi_wp2_with (gi_at_call 16; refine (agents_in F (n - 1) h16 hro _ _ ⟨_, _, _, rfl⟩ _).mono ?_; rintro e w' ⟨rfl, rfl⟩)
  have bO := Boxed.new w 22 (.slice none 0 0)
  have bS := Boxed.new (w.alloc (.cells #[.slice none 0 0] 22)) 22 (.slice a zs.length cap)
  have bW := Boxed.new ((w.alloc (.cells #[.slice none 0 0] 22)).alloc (.cells #[.slice a zs.length cap] 22)) 4 (.bool sw)
  simp only [World.size_alloc] at bS bW
  have hB0 : Below w.heap.size w (((w.alloc (.cells #[.slice none 0 0] 22)).alloc (.cells #[.slice a zs.length cap] 22)).alloc (.cells #[.bool sw] 4)) := (((Below.refl _ w).alloc (Nat.le_refl _) _).alloc (by simp) _).alloc (by simp <;> omega) _
  refine wpIn_rangeFunc_ownG hro h1 (gf := 21) (lb := #[.pointer (some ⟨w.heap.size + 1, 0, none⟩), .pointer (some ⟨w.heap.size + 1 + 1, 0, none⟩)]) rfl h21 (enters_of Try.func21 (by kernel_rfl) rfl)
    (agents_stops F (n - 1) h21 hro (by omega) (w.heap.size + 1) (w.heap.size + 1 + 1) w.heap.size a cap zs sw hlen _ (bS.alloc _).cell bW.cell (by simp <;> omega) (by simp) (by simp <;> omega) (hL.below hB0)) Keeps.trans
    (fun W l o o' hl h hc hw => ⟨belowK_b (w := (((w.alloc (.cells #[.slice none 0 0] 22)).alloc (.cells #[.slice a zs.length cap] 22)).alloc (.cells #[.bool sw] 4))) (by simp <;> omega) W l o o' hl h hc hw, World.putObj_heap_other (by simp at hl; omega), World.putObj_heap_other (by simp at hl; omega)⟩) (Below.refl _ _) (fun _ => rfl)
    (fun pre W => ((∃ v, Boxed W w.heap.size 22 v ∧ W.ownsRow (w.heap.size + 1 + 1 + 1) 3 1 v pre.length (pre.map (Value.int .i64)) ∧ (v = .slice none 0 0 ↔ pre = [])) ∧ Below w.heap.size w W) ∧ w.heap.size + 1 + 1 + 1 ≤ W.heap.size)
    (fun _ _ _ => False)
    (OwnFrom.and (OwnFrom.and (Own.from (holdsRow_own (w.heap.size + 1 + 1 + 1) w.heap.size 22 3 1 (fun pre => pre.length) (fun pre => pre.map (Value.int .i64)) (fun pre v => v = .slice none 0 0 ↔ pre = [])) _) (ownFrom_below (Nat.le_refl _) (by simp <;> omega))) (fun s A B row hs hg _ => Nat.le_trans hs hg.size))
    (fun _ _ _ _ _ hs _ _ => hs)
    ⟨⟨⟨_, (bO.alloc _).alloc _, World.ownsRow_nil _ _ _ _, by simp⟩, hB0⟩, by simp⟩
    (fun x => { tmps := #[.slice a zs.length cap, .bool sw, undef, undef, .slice none 0 0, .pointer (some ⟨w.heap.size, 0, none⟩), .int .i64 x, .slice a zs.length cap, .bool sw, .func (.func 21) #[] #[.pointer (some ⟨w.heap.size + 1, 0, none⟩), .pointer (some ⟨w.heap.size + 1 + 1, 0, none⟩)], .int .i64 x, undef, undef, undef, undef, undef], defers := [] }) ?assign ?body ?done ?stop
  case assign =>
    intro l x W K hK
    gi_wp2
    exact hK
  case body =>
    rintro l pre x W ⟨⟨⟨v, hv, hrow, hnil⟩, hB⟩, hsz⟩ hlt
    have hc := hv.cell
    have hpl : pre.length ≤ 1000000 := by omega
    gi_wp2_with (gi_at_builtin; refine wpListIn_append_own _ rfl _ _ 22 rfl (w.heap.size + 1 + 1 + 1) 3 i0 (.int .i64 0) 1 8 Try.underlying22 hi hz0 hz1 hz2 rfl (by decide) _ _ _ rfl (hrow.alloc _) ⟨W.heap.size, 0, none⟩ 1 1 [.int .i64 x] rfl rfl (cell_one_new _ _ _) (by simp [Value.oneCell']) (by unfold maxLen; omega) (by omega) (by simp; omega) ?_; intro v' w1 hown' hgrow _; obtain ⟨g', cap', rfl⟩ := ownsRow_succ hown'; obtain ⟨hv1, hv2, hr2, hk2, hb2⟩ := hv.appended (by decide) (row_base hrow (show w.heap.size ≤ w.heap.size + 1 + 1 + 1 by omega)) hB.size (Nat.le_refl _) (row_base hown' (show w.heap.size ≤ w.heap.size + 1 + 1 + 1 by omega)) hgrow; have hc1 := hv1.cell; have hf1 := hv1.frozen)
    have hr3 := hown'.kept (grownBy_setCell' w1 w.heap.size (.slice (some ⟨g', 0, none⟩) (pre.length + 1) cap')) (.inr (hv1.not_row (by decide) hown').symm)
    exact ⟨hk2.from _, ⟨hb2, kept2 hrow hgrow _ (by omega) (by omega) (by omega), kept2 hrow hgrow _ (by omega) (by omega) (by omega)⟩, ⟨⟨_, hv2, by simpa using hr3, by simp⟩, hB.trans hb2⟩, by have := hb2.size; omega⟩
  case done =>
    rintro D ys W hD rfl ⟨⟨⟨v, hv, hrow, hnil⟩, hB⟩, hsz⟩ hK
    have hc := hv.cell
    gi_wp2
    refine ⟨by simp, .inl ⟨_, _, rfl, run_takeDeferred hK, ?_⟩⟩
    exact ⟨_, results_tmp rfl _ _ _, v, rfl, row_base (ownsRow_putObj hrow _ hK rfl) (by omega), hnil, hB.trans (belowK_b (w := w) (Nat.le_refl _) W D _ _ (by simp at hD; omega) hK rfl rfl)⟩
  case stop =>
    rintro D c pre W _ _ h _
    exact h.elim
end Go.Proofs.Ytcgjijcjgchhiaa
