/- The walk of SchedRound: choices that go round are fair to all that are ready, and one that is left out makes it unfair; for any three bytes. -/
import Derived.Test.YtcgjijcjgchhiaaRReady
import Derived.Maps.AppendAt
namespace Go.Proofs.Ytcgjijcjgchhiaa
open Go.RowKit Go.Shelf Go.Maps Go.ChangeShapes

/-- the first k picks, going round n -/
def pl (n k : Nat) : List Int := (List.range k).map fun i => ((i % n : Nat) : Int)
/-- those that are not o -/
def bl (n o k : Nat) : List Int := (pl n k).filter fun x => !(x == (o : Int))

theorem pl_succ (n k : Nat) : pl n (k + 1) = pl n k ++ [((k % n : Nat) : Int)] := by
  unfold pl; rw [List.range_succ, List.map_append]; rfl
theorem pl_len (n k : Nat) : (pl n k).length = k := by simp [pl]
theorem bl_len (n o k : Nat) : (bl n o k).length ≤ k := by
  have := List.length_filter_le (fun x : Int => !(x == (o : Int))) (pl n k)
  rw [pl_len] at this
  exact this
theorem bl_succ (n o k : Nat) : bl n o (k + 1) = bl n o k ++ (if ((k % n : Nat) : Int) == (o : Int) then [] else [((k % n : Nat) : Int)]) := by
  unfold bl
  rw [pl_succ, List.filter_append, List.filter_cons, List.filter_nil]
  cases h : (((k % n : Nat) : Int) == (o : Int)) <;> simp
theorem pl_get (n k j : Nat) (h : j < k) : (pl n k).getD j 0 = ((j % n : Nat) : Int) := by
  rw [List.getD_eq_getElem?_getD]; simp [pl, h]

theorem fair_round (n k : Nat) (hn : 1 ≤ n) : fair (pl n k) n n = true := by
  rw [fair_eq, fairR_iff _ _ _ (by omega) (by omega)]
  intro i a hi h0 h1
  rw [pl_len] at hi
  obtain ⟨x, rfl⟩ : ∃ x : Nat, a = (x : Int) := ⟨a.toNat, by omega⟩
  have hx : x < n := by omega
  have him := Nat.mod_lt i (show 0 < n by omega)
  refine ⟨i + (x + n - i % n) % n, by omega, by have := Nat.mod_lt (x + n - i % n) (show 0 < n by omega); omega, ?_⟩
  have hlt := Nat.mod_lt (x + n - i % n) (show 0 < n by omega)
  rw [pl_get _ _ _ (by omega)]
  have e : (i + (x + n - i % n) % n) % n = x := by
    rw [Nat.add_mod_mod]
    have e2 : i + (x + n - i % n) = x + n * (i / n + 1) := by
      have := Nat.div_add_mod i n
      rw [Nat.mul_add, Nat.mul_one]
      omega
    rw [e2, Nat.add_mul_mod_self_left, Nat.mod_eq_of_lt hx]
  rw [e]

theorem fair_but (n o k : Nat) (hn : 1 ≤ n) (ho : o < n) : fair (bl n o k) n n = decide ((bl n o k).length < n) := by
  by_cases h : (bl n o k).length < n
  · rw [decide_eq_true h]
    unfold fair
    rw [if_neg (by omega), if_pos (.inr (by omega))]
  · rw [decide_eq_false h]
    cases hx : fair (bl n o k) n n with
    | false => rfl
    | true =>
      rw [fair_eq, fairR_iff _ _ _ (by omega) (by omega)] at hx
      obtain ⟨j, _, hj, e⟩ := hx 0 (o : Int) (by omega) (by omega) (by omega)
      have hj' : j < (bl n o k).length := by omega
      have hm : (o : Int) ∈ bl n o k := by
        rw [← e, List.getD_eq_getElem?_getD, List.getElem?_eq_getElem hj']
        exact List.getElem_mem hj'
      have := (List.mem_filter.1 hm).2
      simp at this

theorem fair_less (n k : Nat) (hn : 1 ≤ n) : fair (pl n k) n ((n : Int) - 1) = decide (1 < n ∧ (k : Int) < (n : Int) - 1) := by
  unfold fair
  rw [pl_len]
  by_cases h1 : n = 1
  · subst h1
    rw [if_pos (by omega), decide_eq_false (by omega)]
  · rw [if_neg (by omega)]
    by_cases h2 : (k : Int) < (n : Int) - 1
    · rw [if_pos (.inr h2), decide_eq_true ⟨by omega, h2⟩]
    · rw [if_neg (by omega), if_pos (by omega), decide_eq_false (by omega)]

/-- two rows of the call's own that lie apart -/
structure Two (base : Nat) (W : World) (v u : Value) (ps bs : List Int) : Prop where
  left : W.ownsRow base 3 1 v ps.length (ps.map (Value.int .i64))
  right : W.ownsRow base 3 1 u bs.length (bs.map (Value.int .i64))
  apart : v.ownBlock = none ∨ u.ownBlock = none ∨ v.ownBlock ≠ u.ownBlock

theorem Two.symm {base : Nat} {W : World} {v u : Value} {ps bs : List Int} (h : Two base W v u ps bs) : Two base W u v bs ps :=
  ⟨h.right, h.left, by rcases h.apart with h | h | h
                       · exact .inr (.inl h)
                       · exact .inl h
                       · exact .inr (.inr h.symm)⟩
theorem Two.appended {base : Nat} {W w1 : World} {v v' u : Value} {ps bs : List Int} {tmp : Obj} {x : Int} (h : Two base W v u ps bs)
    (hown' : w1.ownsRow base 3 1 v' (ps.length + 1) (ps.map (Value.int .i64) ++ [.int .i64 x])) (hg : (W.alloc tmp).grownBy w1 v.ownBlock) (hat : v'.ownBlock = v.ownBlock ∨ v'.ownBlock = some (W.alloc tmp).heap.size) :
    Two base w1 v' u (ps ++ [x]) bs := by
  refine ⟨by simpa using hown', (h.right.alloc tmp).kept hg ?_, ?_⟩
  · rcases h.apart with e | e | e
    · rw [e]
      cases hu : u.ownBlock with
      | none => exact .inl rfl
      | some k => exact .inr (by simp)
    · exact .inl e
    · exact .inr e.symm
  · rcases hat with e | e
    · rw [e]; exact h.apart
    · rw [e]
      cases hu : u.ownBlock with
      | none => exact .inr (.inl rfl)
      | some k =>
        have := (h.right.lt k hu).2
        exact .inr (.inr (by simp; omega))

theorem below_app {B base : Nat} {a W w1 : World} {v : Value} {k : Nat} {xs : List Value} {tmp : Obj} (h : Below B a W) (hB : B ≤ W.heap.size) (hrow : W.ownsRow base 3 1 v k xs) (hbase : B ≤ base)
    (hg : (W.alloc tmp).grownBy w1 v.ownBlock) : Below B a w1 :=
  (h.alloc hB tmp).grown hg (by simp; omega) (fun j hj => by have := (hrow.lt j hj).1; omega)

theorem rd_zero_get (n r : Nat) (h : r < n) : pkV (rd (List.replicate n 0) false) r = (r : Int) := by
  rw [rd_zeros]
  unfold pkV
  have hl : ((List.range n).map fun (i : Nat) => (i : Int)).length = n := by simp
  rw [hl, Nat.mod_eq_of_lt h, List.getD_eq_getElem?_getD]
  simp [h]

set_option maxRecDepth 100000 in
set_option maxHeartbeats 800000 in
theorem round_main (hh pp oo : Nat) (h1 : hh < 256) (h2 : pp < 256) (h3 : oo < 256) (w : World) :
    Calls Try.prog 7 #[.int .u8 hh, .int .u8 pp, .int .u8 oo] w fun e w' => e = .returned (.bool true) ∧ Below w.heap.size w w' := by
  obtain ⟨i0, hi, hz0, hz1, hz2⟩ := info_parts info3
  obtain ⟨n, hn⟩ : ∃ n : Nat, n = 1 + hh % 20 := ⟨_, rfl⟩
  have hn1 : 1 ≤ n := by omega
  have hn2 : n ≤ 20 := by omega
  have hni : (1 : Int) + (hh : Int) % 20 = (n : Int) := by omega
  obtain ⟨P, hP⟩ : ∃ P : Nat, P = pp % 101 := ⟨_, rfl⟩
  have hp2 : P ≤ 100 := by omega
  have hpi : (pp : Int) % 101 = (P : Int) := by omega
  clear hn hP
  go_enter Try.func7, Try.ntmps7
  go_wp2
  go_loopw [8, 9] (fun v i wr => ∃ k : Nat, k ≤ n ∧ i = .int .i64 k ∧ wr.ownsRow w.heap.size 3 1 v k ((List.replicate k (0 : Int)).map (Value.int .i64)) ∧ Below w.heap.size w wr) (fun _ i _ => n - (intOf i).toNat)
  case atStart => exact ⟨0, Nat.zero_le _, rfl, World.ownsRow_nil _ _ _ _, Below.refl _ _⟩
  case round =>
    obtain ⟨k, hk, rfl, hown, hb⟩ := hrel
    have HB := Lib.hid hb
    have hbs := hb.size
    clear hb
    by_cases hlt : k < n
    · go_wp2_with (at_builtin; refine wpList_append_own _ rfl _ _ 22 rfl w.heap.size 3 i0 (.int .i64 0) 1 8 Try.underlying22 hi hz0 hz1 hz2 rfl (by decide) _ _ _ rfl (hown.alloc _) ⟨wr.heap.size, 0, none⟩ 1 1 [.int .i64 0] rfl rfl (cell_one_new _ _ _) (by simp [Value.oneCell']) (by unfold maxLen; omega) (by omega) (by simp; omega) ?_; intro v' w1 hown' hgrow _)
      go_roundw
      case rel => exact ⟨k + 1, by omega, by go_num, by rw [List.replicate_succ', List.map_append]; exact hown', (HB.out.alloc hbs _).grown hgrow (by simp; omega) (fun j hj => by have := (hown.lt j hj).1; exact this)⟩
      case measure => simp [intOf]; omega
    · obtain rfl : n = k := by omega
      have hst := holds_of_row (xs := List.replicate n (0 : Int)) (by rw [List.length_replicate]; exact hown)
      obtain ⟨a1, cap1, rfl, hr1⟩ := hst
      have hrr := ready_any a1 cap1 (List.replicate n 0) false (by rw [List.length_replicate]; omega) wr hr1
      rw [List.length_replicate] at hrr ⊢
      have HRR := Lib.hid hrr
      clear hrr
      clear hown hr1
      go_wp2_with fail
      refine HRR.out.mono ?_
      rintro e w2 ⟨v2, rfl, ⟨a2, cap2, rfl, hr2⟩, hb2⟩
      have HR2 := Lib.hid hr2
      have HB2 := Lib.hid (HB.out.trans (hb2.mono hbs))
      have HBZ := Lib.hid (HB.out.trans (hb2.mono hbs)).size
      clear hr2 hb2
      have hls : ∀ r, r < n → pkV (rd (List.replicate n 0) false) r = (r : Int) := rd_zero_get n
      have hll : (rd (List.replicate n 0) false).length = n := by rw [rd_zeros]; simp
      have hbz : Below w2.heap.size w2 w2 := Below.refl _ _
      have HBR := Lib.hid hbz
      clear hbz
      generalize rd (List.replicate n 0) false = ls at *
      have HLS := Lib.hid hls
      have HLL := Lib.hid hll
      have hle : ls.length ≤ 20 := by omega
      have HE := Lib.hid (show pkE ls = 0 by unfold pkE; rw [if_neg (by omega)])
      obtain ⟨o, ho⟩ : ∃ o : Nat, o = oo % n := ⟨_, rfl⟩
      have hon : o < n := by rw [ho]; exact Nat.mod_lt _ (by omega)
      have hoi : (oo : Int) % (n : Int) = (o : Int) := by rw [ho]; omega
      clear hls hll ho hk
      go_wp2
      go_loopw [11, 12, 13] (fun v u i wr => ∃ k : Nat, k ≤ P ∧ i = .int .i64 k ∧ Two w2.heap.size wr v u (pl n k) (bl n o k) ∧ Below w.heap.size w wr ∧ Below w2.heap.size w2 wr) (fun _ _ i _ => P - (intOf i).toNat)
      case atStart => exact ⟨0, Nat.zero_le _, rfl, ⟨World.ownsRow_nil _ _ _ _, World.ownsRow_nil _ _ _ _, .inl rfl⟩, HB2.out, HBR.out⟩
      case round =>
        obtain ⟨k, hk, rfl, ht, hbw, hb2⟩ := hrel
        have HT := Lib.hid ht
        have HBW := Lib.hid hbw
        have HBX := Lib.hid hb2
        have hsz := hb2.size
        have hplen := pl_len n k
        have hblen := bl_len n o k
        have HPL := Lib.hid hplen
        have hpll : (pl n k).length ≤ 100 := by omega
        clear ht hbw hb2 hplen
        by_cases hlt : k < P
        · obtain ⟨r, hr⟩ : ∃ r : Nat, r = k % n := ⟨_, rfl⟩
          have hrn : r < n := by rw [hr]; exact Nat.mod_lt _ (by omega)
          have hri : (k : Int) % (n : Int) = (r : Int) := by rw [hr]; omega
          have HR := Lib.hid hr
          have HP := Lib.hid (pick_any a2 cap2 ls r (by omega) _ wr (by unfold maxLen; omega) (HR2.out.below HBX.out))
          rw [HLS.out r hrn, HE.out] at HP
          clear hr
          have hblk : (bl n o k).length ≤ 100 := by omega
          have HPS := Lib.hid (pl_succ n k)
          have HBS := Lib.hid (bl_succ n o k)
          rw [← HR.out] at HPS HBS
          cases hro : ((r : Int) == (o : Int)) with
          | true =>
            rw [hro, if_pos rfl, List.append_nil] at HBS
            have hro' : ((r : Int) != (o : Int)) = false := by rw [bne, hro]; rfl
            clear hro
            go_wp2_with (first | (go_at_call 12; refine HP.out.mono ?_; rintro e w3 ⟨rfl, rfl⟩) | (at_builtin; refine wpList_append_own_at _ rfl (.tmp 48) (.tmp 50) 22 rfl w2.heap.size 3 i0 (.int .i64 0) 1 8 Try.underlying22 hi hz0 hz1 hz2 rfl (by decide) _ _ _ rfl (HT.out.left.alloc _) ⟨wr.heap.size, 0, none⟩ 1 1 [.int .i64 (r : Int)] rfl rfl (cell_one_new _ _ _) (by simp [Value.oneCell']) (by unfold maxLen; omega) (by omega) (by simp; omega) ?_; intro v' w4 hown' hgrow _ hat; have HT1 := Lib.hid (HT.out.appended hown' hgrow hat); have hs4 : w2.heap.size ≤ w4.heap.size := (by have := hgrow.size; simp at this; omega); have HBW4 := Lib.hid (below_app HBW.out HBW.out.size HT.out.left HBZ.out hgrow); have HBX4 := Lib.hid (below_app HBX.out HBX.out.size HT.out.left (Nat.le_refl _) hgrow); clear hown' hgrow hat))
            go_roundw
            case rel => exact ⟨k + 1, by omega, by go_num, by rw [HPS.out, HBS.out]; exact HT1.out, HBW4.out, HBX4.out⟩
            case measure => simp [intOf]; omega
          | false =>
            rw [hro, if_neg (by simp)] at HBS
            have hro' : ((r : Int) != (o : Int)) = true := by rw [bne, hro]; rfl
            clear hro
            go_wp2_with (first | (go_at_call 12; refine HP.out.mono ?_; rintro e w3 ⟨rfl, rfl⟩) | (at_builtin; refine wpList_append_own_at _ rfl (.tmp 48) (.tmp 50) 22 rfl w2.heap.size 3 i0 (.int .i64 0) 1 8 Try.underlying22 hi hz0 hz1 hz2 rfl (by decide) _ _ _ rfl (HT.out.left.alloc _) ⟨wr.heap.size, 0, none⟩ 1 1 [.int .i64 (r : Int)] rfl rfl (cell_one_new _ _ _) (by simp [Value.oneCell']) (by unfold maxLen; omega) (by omega) (by simp; omega) ?_; intro v' w4 hown' hgrow _ hat; have HT1 := Lib.hid (HT.out.appended hown' hgrow hat); have hs4 : w2.heap.size ≤ w4.heap.size := (by have := hgrow.size; simp at this; omega); have HBW4 := Lib.hid (below_app HBW.out HBW.out.size HT.out.left HBZ.out hgrow); have HBX4 := Lib.hid (below_app HBX.out HBX.out.size HT.out.left (Nat.le_refl _) hgrow); clear hown' hgrow hat) | (at_builtin; refine wpList_append_own_at _ rfl (.tmp 58) (.tmp 60) 22 rfl w2.heap.size 3 i0 (.int .i64 0) 1 8 Try.underlying22 hi hz0 hz1 hz2 rfl (by decide) _ _ _ rfl (HT1.out.right.alloc _) ⟨w4.heap.size, 0, none⟩ 1 1 [.int .i64 (r : Int)] rfl rfl (cell_one_new _ _ _) (by simp [Value.oneCell']) (by unfold maxLen; omega) (by omega) (by simp; omega) ?_; intro u' w5 hown' hgrow _ hat; have HT2 := Lib.hid (HT1.out.symm.appended hown' hgrow hat).symm; have HBW5 := Lib.hid (below_app HBW4.out HBW4.out.size HT1.out.right HBZ.out hgrow); have HBX5 := Lib.hid (below_app HBX4.out HBX4.out.size HT1.out.right (Nat.le_refl _) hgrow); clear hown' hgrow hat))
            go_roundw
            case rel => exact ⟨k + 1, by omega, by go_num, by rw [HPS.out, HBS.out]; exact HT2.out, HBW5.out, HBX5.out⟩
            case measure => simp [intOf]; omega
        · obtain rfl : P = k := by omega
          have hst1 := holds_of_row HT.out.left
          have hst2 := holds_of_row HT.out.right
          obtain ⟨a3, cap3, rfl, hr3⟩ := hst1
          obtain ⟨a4, cap4, rfl, hr4⟩ := hst2
          have F1 := fair_any a3 cap3 (pl n P) n n (by omega) wr hr3
          have F2 := fun (W : World) (hW : Below wr.heap.size wr W) => fair_any a4 cap4 (bl n o P) n n (by omega) W ((hr4.below hW).mono hW.size)
          have F3 := fun (W : World) (hW : Below wr.heap.size wr W) => fair_any a3 cap3 (pl n P) n ((n : Int) - 1) (by omega) W ((hr3.below hW).mono hW.size)
          rw [fair_round n P hn1, HPL.out] at F1
          rw [fair_but n o P hn1 hon] at F2
          rw [fair_less n P hn1, HPL.out] at F3
          rw [HPL.out]
          have G1 := Lib.hid F1
          have G2 := Lib.hid F2
          have G3 := Lib.hid F3
          clear F1 F2 F3 hr3 hr4
          generalize (bl n o P).length = q at *
          have hx3 : ∀ x : Bool, decide (1 < n ∧ (P : Int) < (n : Int) - 1) = x → (∀ (W : World), Below wr.heap.size wr W → Calls Try.prog 14 #[Value.slice a3 P cap3, .int .i64 n, .int .i64 ((n : Int) - 1)] W (FairIn W x)) := fun x e W hW => by rw [← e]; exact G3.out W hW
          have hx2 : ∀ x : Bool, decide (q < n) = x → (∀ (W : World), Below wr.heap.size wr W → Calls Try.prog 14 #[Value.slice a4 q cap4, .int .i64 n, .int .i64 n] W (FairIn W x)) := fun x e W hW => by rw [← e]; exact G2.out W hW
          clear G2 G3
          by_cases hq : q < n
          · have G2 := Lib.hid (hx2 true (decide_eq_true hq))
            clear hx2
            by_cases hn1' : n = 1
            · have hn1'' : n ≤ 1 := by omega
              clear hn1'
              have G3 := Lib.hid (hx3 false (decide_eq_false (by omega)))
              clear hx3
              go_wp2_with fail
              refine G1.out.mono ?_
              rintro e w5 ⟨rfl, hb5⟩
              go_wp2_with fail
              refine (G2.out _ hb5).mono ?_
              rintro e w6 ⟨rfl, hb6⟩
              have hb7 := hb5.trans (hb6.mono hb5.size)
              go_wp2_with fail
              refine (G3.out _ hb7).mono ?_
              rintro e w8 ⟨rfl, hb8⟩
              have hb9 := hb7.trans (hb8.mono hb7.size)
              have hb10 := HBW.out.trans (hb9.mono HBW.out.size)
              go_wp2_with fail
              refine (works_in w _ hb10).mono ?_
              rintro e w11 ⟨rfl, hb11⟩
              go_wp2_with fail
              go_ret
              exact ⟨rfl, hb11⟩
            have hn3 : 1 < n := by omega
            by_cases hP : (P : Int) < (n : Int) - 1
            · have hd : decide ((P : Int) < (n : Int) - 1) = true := decide_eq_true hP
              have G3 := Lib.hid (hx3 true (decide_eq_true ⟨hn3, hP⟩))
              clear hx3
              go_wp2_with fail
              refine G1.out.mono ?_
              rintro e w5 ⟨rfl, hb5⟩
              go_wp2_with fail
              refine (G2.out _ hb5).mono ?_
              rintro e w6 ⟨rfl, hb6⟩
              have hb7 := hb5.trans (hb6.mono hb5.size)
              go_wp2_with fail
              refine (G3.out _ hb7).mono ?_
              rintro e w8 ⟨rfl, hb8⟩
              have hb9 := hb7.trans (hb8.mono hb7.size)
              have hb10 := HBW.out.trans (hb9.mono HBW.out.size)
              go_wp2_with fail
              refine (works_in w _ hb10).mono ?_
              rintro e w11 ⟨rfl, hb11⟩
              go_wp2_with fail
              go_ret
              exact ⟨rfl, hb11⟩
            · have hd : decide ((P : Int) < (n : Int) - 1) = false := decide_eq_false hP
              have G3 := Lib.hid (hx3 false (decide_eq_false (by omega)))
              clear hx3
              go_wp2_with fail
              refine G1.out.mono ?_
              rintro e w5 ⟨rfl, hb5⟩
              go_wp2_with fail
              refine (G2.out _ hb5).mono ?_
              rintro e w6 ⟨rfl, hb6⟩
              have hb7 := hb5.trans (hb6.mono hb5.size)
              go_wp2_with fail
              refine (G3.out _ hb7).mono ?_
              rintro e w8 ⟨rfl, hb8⟩
              have hb9 := hb7.trans (hb8.mono hb7.size)
              have hb10 := HBW.out.trans (hb9.mono HBW.out.size)
              go_wp2_with fail
              refine (works_in w _ hb10).mono ?_
              rintro e w11 ⟨rfl, hb11⟩
              go_wp2_with fail
              go_ret
              exact ⟨rfl, hb11⟩
          · have G2 := Lib.hid (hx2 false (decide_eq_false hq))
            have hq' : n ≤ q := by omega
            clear hx2 hq
            by_cases hn1' : n = 1
            · have hn1'' : n ≤ 1 := by omega
              clear hn1'
              have G3 := Lib.hid (hx3 false (decide_eq_false (by omega)))
              clear hx3
              go_wp2_with fail
              refine G1.out.mono ?_
              rintro e w5 ⟨rfl, hb5⟩
              go_wp2_with fail
              refine (G2.out _ hb5).mono ?_
              rintro e w6 ⟨rfl, hb6⟩
              have hb7 := hb5.trans (hb6.mono hb5.size)
              go_wp2_with fail
              refine (G3.out _ hb7).mono ?_
              rintro e w8 ⟨rfl, hb8⟩
              have hb9 := hb7.trans (hb8.mono hb7.size)
              have hb10 := HBW.out.trans (hb9.mono HBW.out.size)
              go_wp2_with fail
              refine (works_in w _ hb10).mono ?_
              rintro e w11 ⟨rfl, hb11⟩
              go_wp2_with fail
              go_ret
              exact ⟨rfl, hb11⟩
            have hn3 : 1 < n := by omega
            by_cases hP : (P : Int) < (n : Int) - 1
            · exfalso; omega
            · have hd : decide ((P : Int) < (n : Int) - 1) = false := decide_eq_false hP
              have G3 := Lib.hid (hx3 false (decide_eq_false (by omega)))
              clear hx3
              go_wp2_with fail
              refine G1.out.mono ?_
              rintro e w5 ⟨rfl, hb5⟩
              go_wp2_with fail
              refine (G2.out _ hb5).mono ?_
              rintro e w6 ⟨rfl, hb6⟩
              have hb7 := hb5.trans (hb6.mono hb5.size)
              go_wp2_with fail
              refine (G3.out _ hb7).mono ?_
              rintro e w8 ⟨rfl, hb8⟩
              have hb9 := hb7.trans (hb8.mono hb7.size)
              have hb10 := HBW.out.trans (hb9.mono HBW.out.size)
              go_wp2_with fail
              refine (works_in w _ hb10).mono ?_
              rintro e w11 ⟨rfl, hb11⟩
              go_wp2_with fail
              go_ret
              exact ⟨rfl, hb11⟩

theorem u8_nat {x : Int} (h : (Lit.int .u8 x).wf = true) : ∃ n : Nat, x = (n : Int) ∧ n < 256 := by
  have hmin : IntKind.u8.min = 0 := rfl
  have hmax : IntKind.u8.max = 255 := rfl
  simp only [Lit.wf, Bool.and_eq_true, decide_eq_true_eq] at h
  exact ⟨x.toNat, by omega, by omega⟩

theorem round_walk (hh pp oo : Int) (w : World) (w1 : (Lit.int .u8 hh).wf = true) (w2 : (Lit.int .u8 pp).wf = true) (w3 : (Lit.int .u8 oo).wf = true) :
    Calls Try.prog 7 #[.int .u8 hh, .int .u8 pp, .int .u8 oo] w fun e w' => e = .returned (.bool true) ∧ Below w.heap.size w w' := by
  obtain ⟨a, rfl, ha⟩ := u8_nat w1
  obtain ⟨b, rfl, hb⟩ := u8_nat w2
  obtain ⟨c, rfl, hc⟩ := u8_nat w3
  exact round_main a b c ha hb hc w
end Go.Proofs.Ytcgjijcjgchhiaa
