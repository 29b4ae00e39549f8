/- What sched.Fair answers, for every list of at most a million picks, any numbers; the helper works. -/
import Derived.Test.YtcgjijcjgchhiaaPick
import Derived.Test.YtcgjijcjgchhiaaMath
import Derived.Maps.OwnSet
import Derived.Laws.EntriesVeiled
import Derived.Maps.OwnOps
namespace Go.Proofs.Ytcgjijcjgchhiaa
open Go.RowKit Go.Shelf Go.Maps

theorem law3 : Keyed Try.prog 3 := int_keyed Try.underlying3
theorem zero3 (w : World) : (zeroValue 3).run Try.prog w = .ok (.int .i64 0) w := by kernel_rfl

/-- the map D tells where each agent was picked last among the first k -/
structure LastIs (D : DataW Unit) (zs : List Int) (k : Nat) (ag : Int) : Prop where
  has : ∀ a, 0 ≤ a → a < ag → Maps.has D (.int .i64 a) = decide (¬ lastAt zs k a = -1)
  val : ∀ a, 0 ≤ a → a < ag → ¬ lastAt zs k a = -1 → D.atKey (.int .i64 a) (.lit (.int .i64 0)) = .lit (.int .i64 (lastAt zs k a))

set_option maxHeartbeats 1000000 in
theorem waited_any (a now most : Int) (Bm Bo b nn : Nat) (zs : List Int) (k : Nat) (ag : Int) (D : DataW Unit) (hD : LastIs D zs k ag) (ha : 0 ≤ a) (ha' : a < ag) (haw : (Lit.int .i64 a).wf = true) (hnow : now = (k : Int)) (hk : k ≤ 1000000) (w : World)
    (hm : w.cell? ⟨Bm, 0, none⟩ = some (.map (some b))) (ho : w.cell? ⟨Bo, 0, none⟩ = some (.int .i64 most)) (hown : w.ownsMap Try.prog 3 (plainElem Try.prog 3) b nn D) :
    Calls Try.prog 17 #[.int .i64 a, .int .i64 now, .pointer (some ⟨Bm, 0, none⟩), .pointer (some ⟨Bo, 0, none⟩)] w fun e w' => e = .returned (.bool (lateAt zs most k a)) ∧ w = w' := by
  have s1 := (lastAt_spec zs a k).1
  have s2 := (lastAt_spec zs a k).2.1
  have e : lateAt zs most k a = decide (most < now - lastAt zs k a) := by rw [hnow]; rfl
  have n0 : 0 ≤ now := by omega
  have n1 : now ≤ 1000000 := by omega
  have s3 : lastAt zs k a < now := by omega
  rw [e]
  by_cases hl : lastAt zs k a = -1
  · have hh : Maps.has D (.int .i64 a) = false := by rw [hD.has a ha ha', hl]; rfl
    rw [hl]
    clear e s1 s2 s3 hl hnow hD
    go_enter Try.func17, Try.ntmps17
    go_wp2_with (first | (at_lookup; refine wpList_lookup_own_ok_int _ rfl _ _ 36 rfl 3 3 .i64 law3 Try.underlying36 Try.underlying3 (zero3 _) b nn _ rfl hown _ _ rfl (keyOf_int_mk Try.underlying3 haw) ?_; intro c hat hwc))
    go_ret
    exact ⟨rfl, rfl⟩
  · have hh : Maps.has D (.int .i64 a) = true := by rw [hD.has a ha ha', decide_eq_true hl]
    have hv := hD.val a ha ha' hl
    generalize lastAt zs k a = p at *
    have HV := Lib.hid hv
    clear e hl hD hnow hv
    go_enter Try.func17, Try.ntmps17
    go_wp2_with (first | (at_lookup; refine wpList_lookup_own_ok_int _ rfl _ _ 36 rfl 3 3 .i64 law3 Try.underlying36 Try.underlying3 (zero3 _) b nn _ rfl hown _ _ rfl (keyOf_int_mk Try.underlying3 haw) ?_; intro c hat hwc; obtain rfl : c = p := by (have := hat.symm.trans HV.out; simpa using this)))
    go_ret
    exact ⟨rfl, rfl⟩

theorem madeCells_zero (n : Nat) : (madeCells (Value.int .i64 0).cells (n * 1)).toList = (List.replicate n (0 : Int)).map (Value.int .i64) := by
  rw [Nat.mul_one, List.map_replicate]
  unfold madeCells
  apply List.ext_getElem
  · simp
  · intro i h1 h2
    simp [Value.cells, Nat.mod_one]

/-- the boxes of Fair: the picked, the most, the map's, the closure's; and the map -/
structure FairAt (w wr : World) (v : Value) (most : Int) (zs : List Int) (ag : Int) (k : Nat) : Prop where
  below : Below w.heap.size w wr
  size : w.heap.size + 5 ≤ wr.heap.size
  cp : wr.cell? ⟨w.heap.size, 0, none⟩ = some v
  co : wr.cell? ⟨w.heap.size + 1, 0, none⟩ = some (.int .i64 most)
  cm : wr.cell? ⟨w.heap.size + 1 + 1 + 1, 0, none⟩ = some (.map (some (w.heap.size + 1 + 1)))
  cw : wr.cell? ⟨w.heap.size + 1 + 1 + 1 + 1, 0, none⟩ = some (.func (.func 17) #[] #[.pointer (some ⟨w.heap.size + 1 + 1 + 1, 0, none⟩), .pointer (some ⟨w.heap.size + 1, 0, none⟩)])
  map : ∃ D : DataW Unit, wr.ownsMap Try.prog 3 (plainElem Try.prog 3) (w.heap.size + 1 + 1) k D ∧ LastIs D zs k ag

theorem FairAt.later {w wr wr' : World} {v : Value} {most : Int} {zs : List Int} {ag : Int} {k : Nat} (h : FairAt w wr v most zs ag k) (hb : Below (w.heap.size + 5) wr wr') : FairAt w wr' v most zs ag k := by
  have c : ∀ b, b < w.heap.size + 5 → wr'.cell? ⟨b, 0, none⟩ = wr.cell? ⟨b, 0, none⟩ := fun b hlt => hb.cell (p := ⟨b, 0, none⟩) hlt
  refine ⟨h.below.trans (hb.mono (by omega)), Nat.le_trans h.size hb.size, (c _ (by omega)).trans h.cp, (c _ (by omega)).trans h.co, (c _ (by omega)).trans h.cm, (c _ (by omega)).trans h.cw, ?_⟩
  obtain ⟨D, ⟨es, clock, hbk, F, hs, hD⟩, hl⟩ := h.map
  exact ⟨D, ⟨es, clock, (hb.block _ (by omega)).trans hbk, F, hs, hD⟩, hl⟩

theorem lastIs_zero (zs : List Int) (ag : Int) : LastIs (.map []) zs 0 ag :=
  ⟨fun _ _ _ => rfl, fun _ _ _ h => absurd rfl h⟩

theorem LastIs.skip {D : DataW Unit} {zs : List Int} {k : Nat} {ag : Int} (h : LastIs D zs k ag) (hx : inR ag (zs.getD k 0) = false) : LastIs D zs (k + 1) ag := by
  have e : ∀ a, 0 ≤ a → a < ag → lastAt zs (k + 1) a = lastAt zs k a := fun a ha hb => by
    rw [lastAt, if_neg]
    intro he
    rw [he] at hx
    exact absurd ⟨ha, hb⟩ (of_decide_eq_false hx)
  exact ⟨fun a ha hb => by rw [e a ha hb]; exact h.has a ha hb, fun a ha hb => by rw [e a ha hb]; exact h.val a ha hb⟩

theorem LastIs.put {D : DataW Unit} {zs : List Int} {k : Nat} {ag : Int} (h : LastIs D zs k ag) (hD : Maps.IsMap D) : LastIs (D.put (.int .i64 (zs.getD k 0)) (.lit (.int .i64 (k : Int)))) zs (k + 1) ag := by
  refine ⟨fun a ha hb => ?_, fun a ha hb hn => ?_⟩
  · rw [lastAt]
    by_cases e : zs.getD k 0 = a
    · rw [if_pos e, e, Maps.has_put_same hD (by first | trivial | simp [WideAt.IsKeyLit])]
      exact (decide_eq_true (by omega)).symm
    · rw [if_neg e, Maps.has_put_other (fun e' => e (by injection e' with _ e''; exact e''.symm))]
      exact h.has a ha hb
  · rw [lastAt] at hn ⊢
    by_cases e : zs.getD k 0 = a
    · rw [if_pos e, e, Maps.atKey_put_same hD (by first | trivial | simp [WideAt.IsKeyLit])]
    · rw [if_neg e] at hn ⊢
      rw [Maps.atKey_put_other (fun e' => e (by injection e' with _ e''; exact e''.symm))]
      exact h.val a ha hb hn

/-- the last question: waited agent a till the end? -/
theorem fend_any (a most : Int) (v : Value) (av : Option Addr) (cap : Nat) (zs : List Int) (ag : Int) (w wr : World) (h : FairAt w wr v most zs ag zs.length) (hv : v = .slice av zs.length cap) (ha : 0 ≤ a) (ha' : a < ag) (haw : (Lit.int .i64 a).wf = true) (hk : zs.length ≤ 1000000) :
    Calls Try.prog 19 #[.int .i64 a, .pointer (some ⟨w.heap.size + 1 + 1 + 1 + 1, 0, none⟩), .pointer (some ⟨w.heap.size, 0, none⟩)] wr fun e w' => e = .returned (.bool (lateAt zs most zs.length a)) ∧ wr = w' := by
  subst hv
  obtain ⟨D, hown, hD⟩ := h.map
  have cp := h.cp
  have cw := h.cw
  have HC := Lib.hid (waited_any a (zs.length : Int) most (w.heap.size + 1 + 1 + 1) (w.heap.size + 1) (w.heap.size + 1 + 1) zs.length zs zs.length ag D hD ha ha' haw rfl hk wr h.cm h.co hown)
  clear h hown hD
  go_enter Try.func19, Try.ntmps19
  go_wp2_with (first | (go_at_call 17; refine HC.out.mono ?_; rintro e w1 ⟨rfl, rfl⟩))
  go_ret
  exact ⟨rfl, rfl⟩

def SomeIdx (p : Bool) (w : World) (e : Ending) (w' : World) : Prop := ∃ n : Int, e = .returned (.int .i64 n) ∧ decide (0 ≤ n) = p ∧ w = w'

theorem any_take_succ (p : Int → Bool) (xs : List Int) (k : Nat) (hk : k < xs.length) (h : (xs.take k).any p = false) : (xs.take (k + 1)).any p = p (xs.getD k 0) := by
  rw [List.take_succ_eq_append_getElem hk, List.any_append, h, List.getD_eq_getElem?_getD, List.getElem?_eq_getElem hk]
  simp
theorem any_of_take (p : Int → Bool) (xs : List Int) (k : Nat) (h : (xs.take k).any p = true) : xs.any p = true := by
  rw [List.any_eq_true] at h ⊢
  obtain ⟨x, hx, hp⟩ := h
  exact ⟨x, List.mem_of_mem_take hx, hp⟩

set_option maxHeartbeats 1000000 in
theorem index_any (g : Nat) (cp : Array Value) (p : Int → Bool) (a : Option Addr) (cap : Nat) (xs : List Int) (n : Nat) (w : World) (hlen : xs.length ≤ 1000000) (hL : Reads n w a xs)
    (hg : g = 19)
    (hf : ∀ i, i < xs.length → Calls Try.prog 19 (#[.int .i64 (xs.getD i 0)] ++ cp) w fun e w' => e = .returned (.bool (p (xs.getD i 0))) ∧ w = w') :
    Calls Try.prog 22 #[.slice a xs.length cap, .func (.func g) #[] cp] w (SomeIdx (xs.any p) w) := by
  subst hg
  have HF := Lib.hid hf
  clear hf
  go_enter Try.func22, Try.ntmps22
  go_wp2
  go_loop [8] (fun i => ∃ k : Nat, k ≤ xs.length ∧ i = .int .i64 k ∧ (xs.take k).any p = false) (fun i => xs.length - (intOf i).toNat)
  case atStart => exact ⟨0, Nat.zero_le _, rfl, rfl⟩
  case round =>
    obtain ⟨k, hk, rfl, hany⟩ := hrel
    have HA := Lib.hid hany
    clear hany
    by_cases hlt : k < xs.length
    · rcases hL with rfl | ⟨b, o, rfl, hb, hcell⟩
      · simp at hlt
      have hc := hcell k hlt
      have HK := Lib.hid (HF.out k hlt)
      have HN := Lib.hid (any_take_succ p xs k hlt HA.out)
      clear hcell
      generalize xs.getD k 0 = x at hc HK HN
      by_cases hp : p x = true
      · rw [hp] at HK HN
        go_wp2_with (first | (go_at_call 19; refine HK.out.mono ?_; rintro e w1 ⟨rfl, rfl⟩))
        go_ret
        refine ⟨(k : Int), rfl, ?_, rfl⟩
        rw [any_of_take p xs (k + 1) HN.out]
        simp
      · have hp' : p x = false := by simpa using hp
        rw [hp'] at HK HN
        clear hp
        go_wp2_with (first | (go_at_call 19; refine HK.out.mono ?_; rintro e w1 ⟨rfl, rfl⟩))
        go_round
        case rel => exact ⟨k + 1, by omega, by go_num, HN.out⟩
        case measure => simp [intOf]; omega
    · obtain rfl : k = xs.length := by omega
      go_wp2
      go_ret
      refine ⟨-1, rfl, ?_, rfl⟩
      have := HA.out
      rw [List.take_length] at this
      rw [this]
      rfl

theorem contains_any (cp : Array Value) (p : Int → Bool) (a : Option Addr) (cap : Nat) (xs : List Int) (n : Nat) (w : World) (hlen : xs.length ≤ 1000000) (hL : Reads n w a xs)
    (hf : ∀ i, i < xs.length → Calls Try.prog 19 (#[.int .i64 (xs.getD i 0)] ++ cp) w fun e w' => e = .returned (.bool (p (xs.getD i 0))) ∧ w = w') :
    Calls Try.prog 18 #[.slice a xs.length cap, .func (.func 19) #[] cp] w fun e w' => e = .returned (.bool (xs.any p)) ∧ w = w' := by
  have HC := Lib.hid (index_any 19 cp p a cap xs n w hlen hL rfl hf)
  clear hf
  go_enter Try.func18, Try.ntmps18
  go_wp2_with fail
  refine HC.out.mono ?_
  rintro e w1 ⟨m, rfl, hd, rfl⟩
  have HD := Lib.hid hd
  clear hd
  go_wp2_with fail
  go_ret
  exact ⟨by rw [← HD.out]; rfl, rfl⟩


theorem FairAt.upd {w wr w1 : World} {v : Value} {most : Int} {zs : List Int} {ag : Int} {k : Nat} {D' : DataW Unit} (h : FairAt w wr v most zs ag k) (hg : wr.grownBy w1 (some (w.heap.size + 1 + 1)))
    (ho : w1.ownsMap Try.prog 3 (plainElem Try.prog 3) (w.heap.size + 1 + 1) (k + 1) D') (hD : LastIs D' zs (k + 1) ag) : FairAt w w1 v most zs ag (k + 1) := by
  have c : ∀ b, b < w.heap.size + 5 → b ≠ w.heap.size + 1 + 1 → w1.cell? ⟨b, 0, none⟩ = wr.cell? ⟨b, 0, none⟩ := fun b hlt hne =>
    World.cell?_of_block (w := wr) (hg.block b (by have := h.size; omega) (fun e => hne (by injection e)))
  exact ⟨h.below.grown hg (by have := h.size; omega) (fun j e => by cases e; omega), Nat.le_trans h.size hg.size, (c _ (by omega) (by omega)).trans h.cp, (c _ (by omega) (by omega)).trans h.co, (c _ (by omega) (by omega)).trans h.cm, (c _ (by omega) (by omega)).trans h.cw, D', ho, hD⟩

theorem FairAt.skip {w wr : World} {v : Value} {most : Int} {zs : List Int} {ag : Int} {k : Nat} (h : FairAt w wr v most zs ag k) (hx : inR ag (zs.getD k 0) = false) : FairAt w wr v most zs ag (k + 1) := by
  obtain ⟨D, ⟨es, clock, hb, F, hs, hD⟩, hl⟩ := h.map
  exact ⟨h.below, h.size, h.cp, h.co, h.cm, h.cw, D, ⟨es, clock, hb, F, by omega, hD⟩, hl.skip hx⟩

theorem fairAt_start (w : World) (v : Value) (most : Int) (zs : List Int) (ag : Int) (t1 t2 : TypeId) : FairAt w
    (((((w.alloc (Obj.cells #[v] 22)).alloc (Obj.cells #[Value.int IntKind.i64 most] 3)).alloc (Obj.map #[] 0)).alloc (Obj.cells #[Value.map (some (w.heap.size + 1 + 1))] t1)).alloc
      (Obj.cells #[Value.func (Fn.func 17) #[] #[Value.pointer (some { block := w.heap.size + 1 + 1 + 1, off := 0 }), Value.pointer (some { block := w.heap.size + 1, off := 0 })]] t2))
    v most zs ag 0 := by
  have co : ∀ (W : World) (o : Obj) (b i : Nat), b < W.heap.size → (W.alloc o).cell? ⟨b, i, none⟩ = W.cell? ⟨b, i, none⟩ := fun W o b i h => World.cell?_alloc_lt W o ⟨b, i, none⟩ h
  have cn : ∀ (W : World) (c : Value) (t : TypeId) (b : Nat), b = W.heap.size → (W.alloc (.cells #[c] t)).cell? ⟨b, 0, none⟩ = some c := fun W c t b h => by subst h; rw [World.cell?_alloc_new]; rfl
  have hm := World.ownsMap_made (H := Unit) ((w.alloc (Obj.cells #[v] 22)).alloc (Obj.cells #[Value.int IntKind.i64 most] 3)) Try.prog 3 (plainElem Try.prog 3)
  simp only [World.size_alloc] at hm
  refine ⟨((((((Below.refl _ _).alloc (Nat.le_refl _) _).alloc (by simp) _).alloc (by simp <;> omega) _).alloc (by simp <;> omega) _).alloc (by simp <;> omega) _), by simp, ?_, ?_, ?_, ?_, .map [], (hm.alloc _).alloc _, lastIs_zero zs ag⟩
  · rw [co _ _ _ _ (by simp <;> omega), co _ _ _ _ (by simp <;> omega), co _ _ _ _ (by simp <;> omega), co _ _ _ _ (by simp), cn _ _ _ _ rfl]
  · rw [co _ _ _ _ (by simp <;> omega), co _ _ _ _ (by simp <;> omega), co _ _ _ _ (by simp), cn _ _ _ _ (by simp)]
  · rw [co _ _ _ _ (by simp), cn _ _ _ _ (by simp)]
  · rw [cn _ _ _ _ (by simp)]

theorem rd_zeros (n : Nat) : rd (List.replicate n 0) false = (List.range n).map fun (i : Nat) => (i : Int) := by
  unfold rd rdTo
  rw [List.length_replicate]
  simp only [Bool.false_eq_true, if_false, List.append_nil]
  congr 1
  rw [List.filter_eq_self]
  intro i hi
  have := List.mem_range.1 hi
  simp [List.getD_eq_getElem?_getD, this]

theorem fairTo_mono (zs : List Int) (ag most : Int) (k n : Nat) (hk : k ≤ n) (h : fairTo zs ag most k = false) : fairTo zs ag most n = false := by
  cases hn : fairTo zs ag most n with
  | false => rfl
  | true =>
    have := (fairTo_iff zs ag most k).2 (fun j hj => (fairTo_iff zs ag most n).1 hn j (by omega))
    rw [h] at this; cases this

theorem fairEnd_any (zs : List Int) (ag most : Int) : (!((List.range ag.toNat).map fun (i : Nat) => (i : Int)).any (lateAt zs most zs.length)) = fairEnd zs ag most := by
  unfold fairEnd
  rw [List.any_map, List.not_any_eq_all_not]
  rfl

theorem ready_zeros (g : Nat) (n : Nat) (hn : n ≤ 1000000) (base : Nat) (w : World) (hrow : w.ownsRow base 3 1 (.slice (some ⟨g, 0, none⟩) n n) n (madeCells (Value.int .i64 0).cells (n * 1)).toList) :
    Calls Try.prog 9 #[.slice (some ⟨g, 0, none⟩) n n, .bool false] w fun e W' => ∃ v, e = .returned v ∧ Holds W' v (rd (List.replicate n 0) false) ∧ Below w.heap.size w W' := by
  rw [madeCells_zero] at hrow
  have hl : (List.replicate n (0 : Int)).length = n := List.length_replicate
  have h0 : w.ownsRow base 3 1 (.slice (some ⟨g, 0, none⟩) n n) (List.replicate n (0 : Int)).length ((List.replicate n (0 : Int)).map (Value.int .i64)) := by rw [hl]; exact hrow
  obtain ⟨a, cap, e, hr⟩ := holds_of_row h0
  injection e with e1 e2 e3
  subst e1
  have := ready_any (some ⟨g, 0, none⟩) n (List.replicate n 0) false (by omega) w hr
  rw [hl] at this
  exact this

def FairIn (w : World) (x : Bool) (e : Ending) (w' : World) : Prop := e = .returned (.bool x) ∧ Below w.heap.size w w'

set_option maxRecDepth 100000 in
set_option maxHeartbeats 2000000 in
theorem fair_main (a : Option Addr) (cap : Nat) (zs : List Int) (ag most : Int) (hlen : zs.length ≤ 1000000) (h1 : 1 ≤ ag) (h2 : ag ≤ most) (h3 : most ≤ zs.length) (w : World) (hL : Reads w.heap.size w a zs) :
    Calls Try.prog 14 #[.slice a zs.length cap, .int .i64 ag, .int .i64 most] w (FairIn w (fairTo zs ag most zs.length && fairEnd zs ag most)) := by
  have hmm := @run_makeMap Try.prog
  have hmf : ∀ (fn : Fn) (first cap : Array Value) (w : World), (Instr.makeFunc fn first cap).run Try.prog w = .ok (.func fn first cap) w := fun _ _ _ _ => rfl
  have g0 : (ag == 0) = false := by simp; omega
  have f1 : decide (ag < 0) = false := decide_eq_false (by omega)
  have f2 : decide (most < 1) = false := decide_eq_false (by omega)
  have f3 : decide ((zs.length : Int) < most) = false := decide_eq_false (by omega)
  have f4 : decide (most < ag) = false := decide_eq_false (by omega)
  have HL := Lib.hid hL
  clear hL
  go_enter Try.func14, Try.ntmps14
  go_wp2
  go_loopw [32] (fun i wr => ∃ k : Nat, k ≤ zs.length ∧ i = .int .i64 k ∧ fairTo zs ag most k = true ∧ FairAt w wr (.slice a zs.length cap) most zs ag k) (fun i _ => zs.length - (intOf i).toNat)
  case atStart =>
    exact ⟨0, Nat.zero_le _, rfl, rfl, fairAt_start w _ most zs ag _ _⟩
  case round =>
    obtain ⟨k, hk, rfl, hf, hat⟩ := hrel
    have HF := Lib.hid hf
    have HA := Lib.hid hat
    clear hf hat
    have cp := HA.out.cp
    have co := HA.out.co
    have cm := HA.out.cm
    have cw := HA.out.cw
    obtain ⟨D, hown, hD⟩ := HA.out.map
    by_cases hlt : k < zs.length
    · rcases HL.out with rfl | ⟨b, o, rfl, hb, hcell⟩
      · simp at hlt
      have hc : wr.cell? ⟨b, o + k, none⟩ = some (.int .i64 (zs.getD k 0)) := by rw [HA.out.below.cell (p := ⟨b, o + k, none⟩) hb]; exact hcell k hlt
      have HS := Lib.hid (show fairTo zs ag most (k + 1) = (fairTo zs ag most k && !(inR ag (zs.getD k 0) && lateAt zs most k (zs.getD k 0))) from rfl)
      have HD := Lib.hid hD
      clear hcell hD
      by_cases hr : inR ag (zs.getD k 0) = true
      · have hr' := of_decide_eq_true hr
        have r1 := hr'.1
        have r2 := hr'.2
        have hw := Lib.hid (waited_any (zs.getD k 0) (k : Int) most (w.heap.size + 1 + 1 + 1) (w.heap.size + 1) (w.heap.size + 1 + 1) k zs k ag D HD.out r1 r2 (WalkArith.wf_i64 (by omega)) rfl (by omega) wr cm co hown)
        have HP := Lib.hid (HD.out.put (by obtain ⟨es, clock, _, _, _, hDD⟩ := hown; exact ⟨_, hDD⟩))
        have hwf : (Lit.int .i64 (zs.getD k 0)).wf = true := WalkArith.wf_i64 (by omega)
        have HWF := Lib.hid hwf
        have HR := Lib.hid hr
        clear hr hr' hwf
        generalize zs.getD k 0 = x at *
        cases hlate : lateAt zs most k x with
        | true =>
          have HT := Lib.hid hlate
          rw [hlate] at hw
          clear hlate
          go_wp2_with (first | (go_at_call 17; refine hw.out.mono ?_; rintro e w1 ⟨rfl, rfl⟩))
          go_ret
          have hz : fairTo zs ag most zs.length = false := fairTo_mono zs ag most (k + 1) _ (by omega) (by rw [HS.out, HF.out, HR.out, HT.out]; rfl)
          exact ⟨by rw [hz]; rfl, HA.out.below⟩
        | false =>
          have HT := Lib.hid hlate
          rw [hlate] at hw
          clear hlate
          go_wp2_with (first | (go_at_call 17; refine hw.out.mono ?_; rintro e w1 ⟨rfl, rfl⟩) | (at_mapUpdate; refine wpList_mapUpdate_own _ rfl _ _ _ 36 rfl 3 3 law3 Try.underlying36 _ (w.heap.size + 1 + 1) k _ rfl hown (by unfold maxLen; omega) _ _ _ rfl rfl (keyOf_int_mk Try.underlying3 HWF.out) _ [] (plainElem_int Try.underlying3 (WalkArith.wf_i64 (n := (k : Int)) (by omega))) ?_; intro w1 hown1 hgrow1))
          go_roundw
          case rel => exact ⟨k + 1, by omega, by go_num, by rw [HS.out, HF.out, HR.out, HT.out]; rfl, HA.out.upd hgrow1 hown1 HP.out⟩
          case measure => simp [intOf]; omega
      · have hr' : inR ag (zs.getD k 0) = false := by simpa using hr
        have hno := of_decide_eq_false hr'
        have HSK := Lib.hid (HA.out.skip hr')
        have HR := Lib.hid hr'
        clear hr hr'
        generalize zs.getD k 0 = x at *
        by_cases hx0 : 0 ≤ x
        · have hx1 : ¬ x < ag := fun g => hno ⟨hx0, g⟩
          have hx2 : ag ≤ x := by omega
          clear hno hx1
          go_wp2
          go_roundw
          case rel => exact ⟨k + 1, by omega, by go_num, by rw [HS.out, HF.out, HR.out]; rfl, HSK.out⟩
          case measure => simp [intOf]; omega
        · have hx1 : x < 0 := by omega
          clear hno hx0
          go_wp2
          go_roundw
          case rel => exact ⟨k + 1, by omega, by go_num, by rw [HS.out, HF.out, HR.out]; rfl, HSK.out⟩
          case measure => simp [intOf]; omega
    · obtain rfl : k = zs.length := by omega
      obtain ⟨n, rfl⟩ : ∃ n : Nat, ag = (n : Int) := ⟨ag.toNat, by omega⟩
      obtain ⟨i0, hi, hz0, hz1, hz2⟩ := info_parts info3
      have hsz := HA.out.size
      have HD := Lib.hid hD
      clear hD hown
      go_wp2_with (first | (at_make; refine wpList_make_full _ rfl _ _ 22 rfl wr.heap.size 3 i0 (.int .i64 0) 1 Try.underlying22 hi hz0 hz1 _ _ _ _ n rfl rfl rfl rfl (by rw [hz2]; omega) (by unfold maxLen; omega) (Nat.le_refl _) ?_; intro w1 hown1 hgrow1))
      have hb1 : Below (w.heap.size + 5) wr w1 := (Below.refl _ _).grown hgrow1 hsz (fun j e => by cases e)
      refine (ready_zeros wr.heap.size n (by omega) _ w1 hown1).mono ?_
      rintro e W2 ⟨v2, rfl, hh, hb2⟩
      have HA2 := Lib.hid (HA.out.later (hb1.trans (hb2.mono (by have := hb1.size; omega))))
      obtain ⟨a2, cap2, rfl, hr2⟩ := hh
      have HR2 := Lib.hid hr2
      have HB1 := Lib.hid hb1
      clear hb1 hown1 hgrow1 hr2 hb2
      generalize hxs : rd (List.replicate n 0) false = xs at *
      have HXS := Lib.hid hxs
      clear hxs
      have HFE : Hid (∀ i, i < xs.length → Calls Try.prog 19 (#[.int .i64 (xs.getD i 0)] ++ #[.pointer (some ⟨w.heap.size + 1 + 1 + 1 + 1, 0, none⟩), .pointer (some ⟨w.heap.size, 0, none⟩)]) W2 fun e w' => e = .returned (.bool (lateAt zs most zs.length (xs.getD i 0))) ∧ W2 = w') := by
        intro i hi
        have e1 : xs = (List.range n).map fun (i : Nat) => (i : Int) := by rw [← HXS.out, rd_zeros]
        have hi' : i < n := by rw [e1] at hi; simpa using hi
        have e2 : xs.getD i 0 = (i : Int) := by rw [e1, List.getD_eq_getElem?_getD]; simp [hi']
        rw [e2]
        exact fend_any (i : Int) most _ a cap zs n w W2 HA2.out rfl (by omega) (by omega) (WalkArith.wf_i64 (by omega)) hlen
      go_wp2_with (first | (go_at_call 18; refine (contains_any _ (lateAt zs most zs.length) _ _ xs W2.heap.size _ (by rw [← HXS.out, rd_zeros]; simp; omega) HR2.out HFE.out).mono ?_; rintro e w3 ⟨rfl, rfl⟩))
      go_ret
      refine ⟨?_, HA2.out.below⟩
      rw [HF.out, ← fairEnd_any, ← HXS.out, rd_zeros]
      rfl

set_option maxRecDepth 100000 in
set_option maxHeartbeats 2000000 in
theorem fair_any (a : Option Addr) (cap : Nat) (zs : List Int) (ag most : Int) (hlen : zs.length ≤ 1000000) (w : World) (hL : Reads w.heap.size w a zs) :
    Calls Try.prog 14 #[.slice a zs.length cap, .int .i64 ag, .int .i64 most] w (FairIn w (fair zs ag most)) := by
  have hB1 : Below w.heap.size w ((w.alloc (Obj.cells #[Value.slice a zs.length cap] 22)).alloc (Obj.cells #[Value.int IntKind.i64 most] 3)) := ((Below.refl _ _).alloc (Nat.le_refl _) _).alloc (by simp) _
  by_cases h1 : ag < 0
  · have e : fair zs ag most = false := by unfold fair; rw [if_pos (.inl h1)]
    rw [e]
    clear hL e
    go_enter Try.func14, Try.ntmps14
    go_wp2
    go_ret
    exact ⟨rfl, hB1⟩
  by_cases h2 : most < 1
  · have e : fair zs ag most = false := by unfold fair; rw [if_pos (.inr h2)]
    rw [e]
    have h1' : 0 ≤ ag := by omega
    clear hL e h1
    go_enter Try.func14, Try.ntmps14
    go_wp2
    go_ret
    exact ⟨rfl, hB1⟩
  by_cases h3 : ag = 0
  · have e : fair zs ag most = true := by unfold fair; rw [if_neg (by omega), if_pos (.inl h3)]
    rw [e]
    subst h3
    have h2' : 1 ≤ most := by omega
    clear hL e h1 h2
    go_enter Try.func14, Try.ntmps14
    go_wp2
    go_ret
    exact ⟨rfl, hB1⟩
  have g0 : (ag == 0) = false := by simpa using h3
  by_cases h4 : (zs.length : Int) < most
  · have e : fair zs ag most = true := by unfold fair; rw [if_neg (by omega), if_pos (.inr h4)]
    rw [e]
    have h1' : 0 ≤ ag := by omega
    have h2' : 1 ≤ most := by omega
    clear hL e h1 h2 h3
    go_enter Try.func14, Try.ntmps14
    go_wp2
    go_ret
    exact ⟨rfl, hB1⟩
  by_cases h5 : most < ag
  · have e : fair zs ag most = false := by unfold fair; rw [if_neg (by omega), if_neg (by omega), if_pos h5]
    rw [e]
    have h1' : 0 ≤ ag := by omega
    have h2' : 1 ≤ most := by omega
    have h4' : most ≤ (zs.length : Int) := by omega
    clear hL e h1 h2 h3 h4
    go_enter Try.func14, Try.ntmps14
    go_wp2
    go_ret
    exact ⟨rfl, hB1⟩
  · have e : fair zs ag most = (fairTo zs ag most zs.length && fairEnd zs ag most) := by unfold fair; rw [if_neg (by omega), if_neg (by omega), if_neg h5]
    rw [e]
    exact fair_main a cap zs ag most hlen (by omega) (by omega) (by omega) w hL
end Go.Proofs.Ytcgjijcjgchhiaa
