/- What the document's Reckon answers: for any operation and any two numbers of 32 bits; the walk of AluReckons. -/
import Derived.Test.YthaihlhikjidhaaTk
import Derived.Deep.QuietTactic
import Derived.BigQuiet
namespace Go.Proofs.Ythaihlhikjidhaa
open Go.RowKit

def p2 (k : Nat) : Int := ((2 ^ k : Nat) : Int)
theorem p2_bd (k : Nat) (h : k < 32) : 1 ≤ p2 k ∧ p2 k ≤ 2147483648 := by
  unfold p2
  have h1 : (2 : Nat) ^ k ≤ 2 ^ 31 := Nat.pow_le_pow_right (by omega) (by omega)
  have h2 : 0 < (2 : Nat) ^ k := Nat.pow_pos (by omega)
  omega
theorem p2_wrap (k : Nat) (h : k < 32) : IntKind.u32.wrap (2 ^ k) = p2 k := by
  have h := p2_bd k h
  have e : (2 : Int) ^ k = p2 k := by simp [p2]
  rw [e, IntKind.wrap_u32']
  omega
/-- which number the table has for two bits -/
def tsel (t0 t1 t2 t3 : Int) (x y : Bool) : Int := if x then (if y then t3 else t2) else (if y then t1 else t0)
def bitsTo (t0 t1 t2 t3 : Int) (a b : Nat) (i : Nat) : Bool := tsel t0 t1 t2 t3 (a.testBit i) (b.testBit i) == 1
theorem sb_lt (g : Nat → Bool) : ∀ n, sb n g < 2 ^ n
  | 0 => by simp [sb]
  | n + 1 => by
    have := sb_lt g n
    have e : 2 ^ (n + 1) = 2 ^ n + 2 ^ n := by omega
    rw [sb, e]
    cases g n <;> simp <;> omega
theorem bit_of (a : Int) (ha : 0 ≤ a) (k : Nat) : (a / p2 k % 2 = 1 ∧ a.toNat.testBit k = true) ∨ (a / p2 k % 2 = 0 ∧ a.toNat.testBit k = false) := by
  obtain ⟨x, rfl⟩ := Int.eq_ofNat_of_zero_le ha
  have e : ((x : Int) / p2 k % 2) = ((x / 2 ^ k % 2 : Nat) : Int) := by simp [p2]
  rw [e, Int.toNat_natCast, Nat.testBit_eq_decide_div_mod_eq]
  rcases Nat.mod_two_eq_zero_or_one (x / 2 ^ k) with h | h
  · right; rw [h]; simp
  · left; rw [h]; simp

theorem rel0 {g : Nat → Bool} {k : Nat} {S : Int} (hS : ((sb k g : Nat) : Int) = S) (hn : sb (k + 1) g = sb k g + (g k).toNat * 2 ^ k) (hg : g k = false) :
    Value.int .u32 S = .int .u32 ((sb (k + 1) g : Nat) : Int) := by rw [hn, hg, ← hS]; simp
theorem rel1 {g : Nat → Bool} {k : Nat} {S : Int} (hS : ((sb k g : Nat) : Int) = S) (hn : sb (k + 1) g = sb k g + (g k).toNat * 2 ^ k) (hg : g k = true) :
    Value.int .u32 (S + p2 k) = .int .u32 ((sb (k + 1) g : Nat) : Int) := by rw [hn, hg, ← hS]; simp [p2]
theorem drewN_below {B : Nat} {a w : World} (h : Below B a w) (n : Nat) : Below B a (w.drewN n) := ⟨h.os, h.tape, h.output, h.size, h.block⟩

set_option maxHeartbeats 2000000 in
theorem bits_any (a b : Int) (t0 t1 t2 t3 : Int) (h0 : t0 = 0 ∨ t0 = 1) (h1 : t1 = 0 ∨ t1 = 1) (h2 : t2 = 0 ∨ t2 = 1) (h3 : t3 = 0 ∨ t3 = 1) (a1 : 0 ≤ a) (a2 : a < 4294967296) (b1 : 0 ≤ b) (b2 : b < 4294967296) (w : World) :
    Calls Try.prog 18 #[.int .u32 a, .int .u32 b, .agg #[.int .u32 t0, .int .u32 t1, .int .u32 t2, .int .u32 t3]] w fun e w' => e = .returned (.int .u32 (sb 32 (bitsTo t0 t1 t2 t3 a.toNat b.toNat))) ∧ Below w.heap.size w w' := by
  have H0 := Lib.hid h0
  have H1 := Lib.hid h1
  have H2 := Lib.hid h2
  have H3 := Lib.hid h3
  clear h0 h1 h2 h3
  go_enter Try.func18, Try.ntmps18
  go_wp2
  go_loopw [7, 8] (fun o i wr => ∃ k : Nat, k ≤ 32 ∧ i = .int .i64 k ∧ o = .int .u32 (sb k (bitsTo t0 t1 t2 t3 a.toNat b.toNat)) ∧ Below (w.heap.size + 1) (w.alloc (.cells #[.int .u32 t0, .int .u32 t1, .int .u32 t2, .int .u32 t3] 41)) wr) (fun _ i _ => 32 - (intOf i).toNat)
  case atStart => exact ⟨0, by omega, rfl, rfl, Below.refl _ _⟩
  case round =>
    obtain ⟨k, hk, rfl, rfl, hw⟩ := hrel
    by_cases hlt : k < 32
    · have p1 := (p2_bd k hlt).1
      have p3 := (p2_bd k hlt).2
      have pw := p2_wrap k hlt
      have hs := sb_lt (bitsTo t0 t1 t2 t3 a.toNat b.toNat) k
      have hs' : ((sb k (bitsTo t0 t1 t2 t3 a.toNat b.toNat) : Nat) : Int) < p2 k := by unfold p2; omega
      have hsn : sb (k + 1) (bitsTo t0 t1 t2 t3 a.toNat b.toNat) = sb k (bitsTo t0 t1 t2 t3 a.toNat b.toNat) + (bitsTo t0 t1 t2 t3 a.toNat b.toNat k).toNat * 2 ^ k := rfl
      have HW := Lib.hid hw
      have c0 : wr.cell? ⟨w.heap.size, 0, none⟩ = some (.int .u32 t0) := by rw [(bcell hw).1 _ _ (by omega)]; simp
      have c1 : wr.cell? ⟨w.heap.size, 1, none⟩ = some (.int .u32 t1) := by rw [(bcell hw).1 _ _ (by omega)]; simp
      have c2 : wr.cell? ⟨w.heap.size, 2, none⟩ = some (.int .u32 t2) := by rw [(bcell hw).1 _ _ (by omega)]; simp
      have c3 : wr.cell? ⟨w.heap.size, 3, none⟩ = some (.int .u32 t3) := by rw [(bcell hw).1 _ _ (by omega)]; simp
      clear hw hs
      generalize hS : ((sb k (bitsTo t0 t1 t2 t3 a.toNat b.toNat) : Nat) : Int) = S at hs' ⊢
      have s0 : 0 ≤ S := by omega
      have HS := Lib.hid hS
      have HN := Lib.hid hsn
      clear hS hsn
      have qa : 0 ≤ a / p2 k := Int.ediv_nonneg a1 (by omega)
      have qb : 0 ≤ b / p2 k := Int.ediv_nonneg b1 (by omega)
      rcases bit_of a a1 k with ⟨x1, x2⟩ | ⟨x1, x2⟩ <;> rcases bit_of b b1 k with ⟨y1, y2⟩ | ⟨y1, y2⟩
      · have X := Lib.hid x2
        have Y := Lib.hid y2
        clear x2 y2
        rcases H3.out with rfl | rfl
        · go_wp2
          go_quiet (fail)
          go_wp2
          go_quiet (fail)
          go_wp2
          go_roundw
          case rel => exact ⟨k + 1, by omega, by go_num, rel0 HS.out HN.out (by unfold bitsTo tsel; rw [X.out, Y.out]; rfl), drewN_below HW.out _⟩
          case measure => simp [intOf]; omega
        · go_wp2
          go_quiet (fail)
          go_wp2
          go_quiet (fail)
          go_wp2
          go_roundw
          case rel => exact ⟨k + 1, by omega, by go_num, rel1 HS.out HN.out (by unfold bitsTo tsel; rw [X.out, Y.out]; rfl), drewN_below HW.out _⟩
          case measure => simp [intOf]; omega
      · have X := Lib.hid x2
        have Y := Lib.hid y2
        clear x2 y2
        rcases H2.out with rfl | rfl
        · go_wp2
          go_quiet (fail)
          go_wp2
          go_quiet (fail)
          go_wp2
          go_roundw
          case rel => exact ⟨k + 1, by omega, by go_num, rel0 HS.out HN.out (by unfold bitsTo tsel; rw [X.out, Y.out]; rfl), drewN_below HW.out _⟩
          case measure => simp [intOf]; omega
        · go_wp2
          go_quiet (fail)
          go_wp2
          go_quiet (fail)
          go_wp2
          go_roundw
          case rel => exact ⟨k + 1, by omega, by go_num, rel1 HS.out HN.out (by unfold bitsTo tsel; rw [X.out, Y.out]; rfl), drewN_below HW.out _⟩
          case measure => simp [intOf]; omega
      · have X := Lib.hid x2
        have Y := Lib.hid y2
        clear x2 y2
        rcases H1.out with rfl | rfl
        · go_wp2
          go_quiet (fail)
          go_wp2
          go_quiet (fail)
          go_wp2
          go_roundw
          case rel => exact ⟨k + 1, by omega, by go_num, rel0 HS.out HN.out (by unfold bitsTo tsel; rw [X.out, Y.out]; rfl), drewN_below HW.out _⟩
          case measure => simp [intOf]; omega
        · go_wp2
          go_quiet (fail)
          go_wp2
          go_quiet (fail)
          go_wp2
          go_roundw
          case rel => exact ⟨k + 1, by omega, by go_num, rel1 HS.out HN.out (by unfold bitsTo tsel; rw [X.out, Y.out]; rfl), drewN_below HW.out _⟩
          case measure => simp [intOf]; omega
      · have X := Lib.hid x2
        have Y := Lib.hid y2
        clear x2 y2
        rcases H0.out with rfl | rfl
        · go_wp2
          go_quiet (fail)
          go_wp2
          go_quiet (fail)
          go_wp2
          go_roundw
          case rel => exact ⟨k + 1, by omega, by go_num, rel0 HS.out HN.out (by unfold bitsTo tsel; rw [X.out, Y.out]; rfl), drewN_below HW.out _⟩
          case measure => simp [intOf]; omega
        · go_wp2
          go_quiet (fail)
          go_wp2
          go_quiet (fail)
          go_wp2
          go_roundw
          case rel => exact ⟨k + 1, by omega, by go_num, rel1 HS.out HN.out (by unfold bitsTo tsel; rw [X.out, Y.out]; rfl), drewN_below HW.out _⟩
          case measure => simp [intOf]; omega
    · obtain rfl : k = 32 := by omega
      have HW := Lib.hid hw
      clear hw
      obtain ⟨S, hS⟩ : ∃ S : Int, ((sb 32 (bitsTo t0 t1 t2 t3 a.toNat b.toNat) : Nat) : Int) = S := ⟨_, rfl⟩
      rw [hS]
      have HS := Lib.hid hS
      clear hS
      go_wp2
      go_ret
      exact ⟨ret_u32 HS.out.symm, (((Below.refl _ _).alloc (Nat.le_refl _) _).trans (HW.out.mono (by omega)))⟩

def pw (b : Int) : Int := 2 ^ (b % 32).toNat
theorem pw_bd (b : Int) : 1 ≤ pw b ∧ pw b ≤ 2147483648 := by
  unfold pw
  have h : (b % 32).toNat ≤ 31 := by omega
  have h1 : (2 : Nat) ^ (b % 32).toNat ≤ 2 ^ 31 := Nat.pow_le_pow_right (by omega) h
  have h2 : 0 < (2 : Nat) ^ (b % 32).toNat := Nat.pow_pos (by omega)
  have e : (2 : Int) ^ (b % 32).toNat = ((2 ^ (b % 32).toNat : Nat) : Int) := by simp
  rw [e]
  omega
theorem pw_wrap (b : Int) : IntKind.u64.wrap (2 ^ (b % 32).toNat) = pw b := by
  have h := pw_bd b
  have e : (2 : Int) ^ (b % 32).toNat = pw b := rfl
  rw [e, IntKind.wrap_u64]
  omega

theorem sb_and (x y : Nat) (_hx : x < 2 ^ 32) (hy : y < 2 ^ 32) : sb 32 (bitsTo 0 0 0 1 x y) = x &&& y := by
  rw [← sb_of_lt (Nat.and_lt_two_pow x hy)]
  refine sb_congr 32 fun i => ?_
  unfold bitsTo tsel
  rw [Nat.testBit_and]
  cases x.testBit i <;> cases y.testBit i <;> rfl
theorem sb_or (x y : Nat) (hx : x < 2 ^ 32) (hy : y < 2 ^ 32) : sb 32 (bitsTo 0 1 1 1 x y) = x ||| y := by
  rw [← sb_of_lt (Nat.or_lt_two_pow hx hy)]
  refine sb_congr 32 fun i => ?_
  unfold bitsTo tsel
  rw [Nat.testBit_or]
  cases x.testBit i <;> cases y.testBit i <;> rfl
theorem sb_xor (x y : Nat) (hx : x < 2 ^ 32) (hy : y < 2 ^ 32) : sb 32 (bitsTo 0 1 1 0 x y) = x ^^^ y := by
  rw [← sb_of_lt (Nat.xor_lt_two_pow hx hy)]
  refine sb_congr 32 fun i => ?_
  unfold bitsTo tsel
  rw [Nat.testBit_xor]
  cases x.testBit i <;> cases y.testBit i <;> rfl

theorem ret3 {v v' t : Int} {x : Bool} (h : v = v') : Ending.returned (.tuple #[.int .u32 v, .int .i64 t, .bool x]) = .returned (.tuple #[.int .u32 v', .int .i64 t, .bool x]) := by rw [h]
theorem mul_u64 (x : Int) (_h : 0 ≤ x) : (IntKind.u64.wrap x).tmod 4294967296 % 4294967296 = x % 4294967296 := by
  rw [IntKind.wrap_u64, Int.tmod_eq_emod_of_nonneg (by omega), Int.emod_emod, Int.emod_emod_of_dvd x (show (4294967296 : Int) ∣ 18446744073709551616 by decide)]

def RR (c a b : Int) : Prop := ∀ w : World, Calls Try.prog 11 #[.int .i64 c, .int .u32 a, .int .u32 b] w fun e w' => e = .returned (.tuple #[.int .u32 (rv c a b), .int .i64 (tr c b), .bool (isOp c)]) ∧ Below w.heap.size w w'
theorem bd4 {a b : Int} (ha : Bd a) (hb : Bd b) : 0 ≤ a ∧ a < 4294967296 ∧ 0 ≤ b ∧ b < 4294967296 := ⟨ha.1, ha.2, hb.1, hb.2⟩

theorem rr3 (a b : Int) (ha : Bd a) (hb : Bd b) : RR 3 a b := by
  intro w
  obtain ⟨a1, a2, b1, b2⟩ := bd4 ha hb
  clear ha hb
  go_enter Try.func11, Try.ntmps11
  go_wp2
  go_ret3
  exact ⟨ret3 rfl, Below.refl _ _⟩
theorem rr4 (a b : Int) (ha : Bd a) (hb : Bd b) : RR 4 a b := by
  intro w
  obtain ⟨a1, a2, b1, b2⟩ := bd4 ha hb
  clear ha hb
  go_enter Try.func11, Try.ntmps11
  go_wp2
  go_ret3
  exact ⟨ret3 (show (a + 4294967296 - b) % 4294967296 = (a - b) % 4294967296 by omega), Below.refl _ _⟩
theorem rr5 (a b : Int) (ha : Bd a) (hb : Bd b) : RR 5 a b := by
  intro w
  obtain ⟨a1, a2, b1, b2⟩ := bd4 ha hb
  clear ha hb
  have H := Lib.hid (mul_u64 (a * b) (Int.mul_nonneg a1 b1))
  go_enter Try.func11, Try.ntmps11
  go_wp2
  go_ret3
  exact ⟨ret3 H.out, Below.refl _ _⟩
theorem rr67 (c a b : Int) (hc : c = 6 ∨ c = 7) (ha : Bd a) (hb : Bd b) : RR c a b := by
  intro w
  by_cases hz : b = 0
  · subst hz
    have hz' : ((0 : Int) == 0) = true := rfl
    rcases hc with rfl | rfl
    all_goals
      go_enter Try.func11, Try.ntmps11
      go_wp2
      go_ret3
      exact ⟨rfl, Below.refl _ _⟩
  · have e3 : tr c b = 0 := by unfold tr; rw [if_neg (fun g => hz g.2)]
    rw [e3]
    have hz' : (b == 0) = false := by simpa using hz
    obtain ⟨a1, a2, b1, b2⟩ := bd4 ha hb
    have b3 : 1 ≤ b := by omega
    have d1 := div_bd b ha b1
    have d2 := rv_bd 7 a b ha hb
    have e2 : rv 7 a b = a % b := by show (if b = 0 then 0 else a % b) = _; rw [if_neg hz]
    have e1 : rv 6 a b = a / b := by show (if b = 0 then 0 else a / b) = _; rw [if_neg hz]
    rw [e2] at d2
    have f1 : a / b % 4294967296 = a / b := Int.emod_eq_of_lt d1.1 d1.2
    have f2 : a % b % 4294967296 = a % b := Int.emod_eq_of_lt d2.1 d2.2
    have F1 := Lib.hid f1
    have F2 := Lib.hid f2
    clear ha hb hz e3 d1 d2 f1 f2
    rcases hc with rfl | rfl
    · rw [e1]
      clear e1 e2
      go_enter Try.func11, Try.ntmps11
      go_wp2
      go_ret3
      exact ⟨ret3 F1.out, Below.refl _ _⟩
    · rw [e2]
      clear e1 e2
      go_enter Try.func11, Try.ntmps11
      go_wp2
      go_ret3
      exact ⟨ret3 F2.out, Below.refl _ _⟩
theorem rr8 (a b : Int) (ha : Bd a) (hb : Bd b) : RR 8 a b := by
  intro w
  obtain ⟨a1, a2, b1, b2⟩ := bd4 ha hb
  have e : rv 8 a b = ((sb 32 (bitsTo 0 0 0 1 a.toNat b.toNat) : Nat) : Int) := by rw [sb_and _ _ (by omega) (by omega)]; rfl
  rw [e]
  clear ha hb e
  go_enter Try.func11, Try.ntmps11
  go_wp2_with (go_at_call 18; refine (bits_any a b 0 0 0 1 (by decide) (by decide) (by decide) (by decide) a1 a2 b1 b2 _).mono ?_; rintro e w1 ⟨rfl, hb1⟩)
  go_ret3
  exact ⟨rfl, by assumption⟩
theorem rr9 (a b : Int) (ha : Bd a) (hb : Bd b) : RR 9 a b := by
  intro w
  obtain ⟨a1, a2, b1, b2⟩ := bd4 ha hb
  have e : rv 9 a b = ((sb 32 (bitsTo 0 1 1 1 a.toNat b.toNat) : Nat) : Int) := by rw [sb_or _ _ (by omega) (by omega)]; rfl
  rw [e]
  clear ha hb e
  go_enter Try.func11, Try.ntmps11
  go_wp2_with (go_at_call 18; refine (bits_any a b 0 1 1 1 (by decide) (by decide) (by decide) (by decide) a1 a2 b1 b2 _).mono ?_; rintro e w1 ⟨rfl, hb1⟩)
  go_ret3
  exact ⟨rfl, by assumption⟩
theorem rr10 (a b : Int) (ha : Bd a) (hb : Bd b) : RR 10 a b := by
  intro w
  obtain ⟨a1, a2, b1, b2⟩ := bd4 ha hb
  have e : rv 10 a b = ((sb 32 (bitsTo 0 1 1 0 a.toNat b.toNat) : Nat) : Int) := by rw [sb_xor _ _ (by omega) (by omega)]; rfl
  rw [e]
  clear ha hb e
  go_enter Try.func11, Try.ntmps11
  go_wp2_with (go_at_call 18; refine (bits_any a b 0 1 1 0 (by decide) (by decide) (by decide) (by decide) a1 a2 b1 b2 _).mono ?_; rintro e w1 ⟨rfl, hb1⟩)
  go_ret3
  exact ⟨rfl, by assumption⟩
theorem rr11 (a b : Int) (ha : Bd a) (hb : Bd b) : RR 11 a b := by
  intro w
  obtain ⟨a1, a2, b1, b2⟩ := bd4 ha hb
  have p1 := (pw_bd b).1
  have p2 := (pw_bd b).2
  have p3 := pw_wrap b
  have H := Lib.hid (mul_u64 (a * pw b) (Int.mul_nonneg a1 (by omega)))
  clear ha hb
  go_enter Try.func11, Try.ntmps11
  go_wp2
  go_ret3
  exact ⟨ret3 H.out, Below.refl _ _⟩
theorem rr12 (a b : Int) (ha : Bd a) (hb : Bd b) : RR 12 a b := by
  intro w
  obtain ⟨a1, a2, b1, b2⟩ := bd4 ha hb
  have p1 := (pw_bd b).1
  have p2 := (pw_bd b).2
  have p3 := pw_wrap b
  have d1 := div_bd (pw b) ha (by omega)
  have H := Lib.hid (show a / pw b % 4294967296 = a / pw b from Int.emod_eq_of_lt d1.1 d1.2)
  clear ha hb d1
  go_enter Try.func11, Try.ntmps11
  go_wp2
  go_ret3
  exact ⟨ret3 H.out, Below.refl _ _⟩
theorem rone_any (x : Bool) (w : World) : Calls Try.prog 19 #[.bool x] w fun e w' => e = .returned (.int .u32 (b2i x)) ∧ w = w' := by
  cases x
  all_goals
    go_enter Try.func19, Try.ntmps19
    go_wp2
    go_ret
    exact ⟨rfl, rfl⟩
theorem rr13 (a b : Int) (ha : Bd a) (hb : Bd b) : RR 13 a b := by
  intro w
  have e : rv 13 a b = b2i (decide (sg a < sg b)) := by show (if sg a < sg b then 1 else 0) = _; simp [b2i]
  rw [e]
  clear e
  go_enter Try.func11, Try.ntmps11
  go_wp2_with (first | (go_at_call 20; refine (rsigned_any _ (by assumption) _).mono ?_; rintro e w' ⟨rfl, rfl⟩) | (go_at_call 19; refine (rone_any _ _).mono ?_; rintro e w' ⟨rfl, rfl⟩))
  go_ret3
  exact ⟨rfl, Below.refl _ _⟩
theorem rr14 (a b : Int) : RR 14 a b := by
  intro w
  have e : rv 14 a b = b2i (decide (a < b)) := by show (if a < b then 1 else 0) = _; simp [b2i]
  rw [e]
  clear e
  go_enter Try.func11, Try.ntmps11
  go_wp2_with (first | (go_at_call 19; refine (rone_any _ _).mono ?_; rintro e w' ⟨rfl, rfl⟩))
  go_ret3
  exact ⟨rfl, Below.refl _ _⟩
theorem rr15 (a b : Int) : RR 15 a b := by
  intro w
  have e : rv 15 a b = b2i (a == b) := by show (if a = b then 1 else 0) = _; simp [b2i]
  rw [e]
  clear e
  go_enter Try.func11, Try.ntmps11
  go_wp2_with (first | (go_at_call 19; refine (rone_any _ _).mono ?_; rintro e w' ⟨rfl, rfl⟩))
  go_ret3
  exact ⟨rfl, Below.refl _ _⟩
theorem rr_none (c a b : Int) (hc : c < 3 ∨ 15 < c) : RR c a b := by
  intro w
  have e1 : rv c a b = 0 := by
    unfold rv
    rw [if_neg (by omega), if_neg (by omega), if_neg (by omega), if_neg (by omega), if_neg (by omega), if_neg (by omega), if_neg (by omega), if_neg (by omega), if_neg (by omega), if_neg (by omega), if_neg (by omega), if_neg (by omega), if_neg (by omega)]
  have e2 : tr c b = 0 := by unfold tr; rw [if_neg (by omega)]
  have e3 : isOp c = false := decide_eq_false (by omega)
  rw [e1, e2, e3]
  clear e1 e2 e3
  go_enter Try.func11, Try.ntmps11
  go_wp2
  go_ret3
  exact ⟨rfl, Below.refl _ _⟩
theorem rr_any (c a b : Int) (ha : Bd a) (hb : Bd b) : RR c a b := by
  by_cases hc : 3 ≤ c ∧ c ≤ 15
  · obtain ⟨k, rfl⟩ : ∃ k : Nat, c = (k : Int) := ⟨c.toNat, by omega⟩
    have hk : 3 ≤ k ∧ k ≤ 15 := by omega
    clear hc
    match k, hk with
    | 3, _ => exact rr3 a b ha hb
    | 4, _ => exact rr4 a b ha hb
    | 5, _ => exact rr5 a b ha hb
    | 6, _ => exact rr67 6 a b (.inl rfl) ha hb
    | 7, _ => exact rr67 7 a b (.inr rfl) ha hb
    | 8, _ => exact rr8 a b ha hb
    | 9, _ => exact rr9 a b ha hb
    | 10, _ => exact rr10 a b ha hb
    | 11, _ => exact rr11 a b ha hb
    | 12, _ => exact rr12 a b ha hb
    | 13, _ => exact rr13 a b ha hb
    | 14, _ => exact rr14 a b
    | 15, _ => exact rr15 a b
  · exact rr_none c a b (by omega)

theorem reckons_walk (c a b : Int) (w : World) (_wc : (Lit.int .i64 c).wf = true) (wa : (Lit.int .u32 a).wf = true) (wb : (Lit.int .u32 b).wf = true) :
    Calls Try.prog 3 #[.int .i64 c, .int .u32 a, .int .u32 b] w fun e w' => e = .returned (.bool true) ∧ Below w.heap.size w w' := by
  have ha := bd_wf wa
  have hb := bd_wf wb
  clear wa wb
  have hB := Below.refl w.heap.size w
  have hr : ∀ W : World, Below w.heap.size w W → Calls Try.prog 11 #[.int .i64 c, .int .u32 a, .int .u32 b] W fun e w' => e = .returned (.tuple #[.int .u32 (rv c a b), .int .i64 (tr c b), .bool (isOp c)]) ∧ Below w.heap.size w w' :=
    fun W h => (rr_any c a b ha hb W).mono fun _ _ ⟨he, hw⟩ => ⟨he, h.trans (hw.mono h.size)⟩
  have HR := Lib.hid hr
  clear hr
  have r1 : (rv c a b == rv c a b) = true := by simp
  have r2 : (tr c b == tr c b) = true := by simp
  have r3 : (isOp c == isOp c) = true := by simp
  go_enter Try.func3, Try.ntmps3
  go_wp2_with (first | (go_at_call 12; refine (works_in w _ (by assumption)).mono ?_; rintro e w1 ⟨rfl, hb1⟩) | (go_at_call 10; refine (reckon_in w _ _ _ ha hb _ (by assumption)).mono ?_; rintro e w1 ⟨rfl, hb1⟩) | (go_at_call 11; refine (HR.out _ (by assumption)).mono ?_; rintro e w1 ⟨rfl, hb1⟩))
  go_ret
  exact ⟨rfl, by assumption⟩
end Go.Proofs.Ythaihlhikjidhaa
