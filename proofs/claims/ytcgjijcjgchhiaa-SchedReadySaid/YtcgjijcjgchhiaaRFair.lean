/- What the document's Fair answers, for every list of at most a million picks; the walk of SchedFair. -/
import Derived.Test.YtcgjijcjgchhiaaPicks
namespace Go.Proofs.Ytcgjijcjgchhiaa
open Go.RowKit Go.Shelf Go.Maps Go.ChangeShapes

theorem hasIn_succ (zs : List Int) (k j : Nat) (x : Int) (h : hasIn zs k j x = false) : hasIn zs k (j + 1) x = (zs.getD (k + j) 0 == x) := by
  unfold hasIn at h ⊢
  rw [List.range_succ, List.any_append, h]
  simp
theorem hasIn_mono (zs : List Int) (k j m : Nat) (x : Int) (hj : j ≤ m) (h : hasIn zs k j x = true) : hasIn zs k m x = true := by
  obtain ⟨i, h1, h2, h3⟩ := (hasIn_iff _ _ _ _).1 h
  exact (hasIn_iff _ _ _ _).2 ⟨i, h1, by omega, h3⟩

set_option maxHeartbeats 1000000 in
theorem has_any (b off m c : Nat) (x : Int) (zs : List Int) (k : Nat) (hm : m ≤ 1000000) (w : World) (hcell : ∀ j, j < m → w.cell? ⟨b, off + j, none⟩ = some (.int .i64 (zs.getD (k + j) 0))) :
    Calls Try.prog 20 #[.slice (some ⟨b, off, none⟩) m c, .int .i64 x] w fun e w' => e = .returned (.bool (hasIn zs k m x)) ∧ w = w' := by
  have HC := Lib.hid hcell
  clear hcell
  go_enter Try.func20, Try.ntmps20
  go_wp2
  go_loop [5] (fun i => ∃ j : Nat, j ≤ m ∧ i = .int .i64 j ∧ hasIn zs k j x = false) (fun i => m - (intOf i).toNat)
  case atStart => exact ⟨0, Nat.zero_le _, rfl, rfl⟩
  case round =>
    obtain ⟨j, hj, rfl, hh⟩ := hrel
    have HH := Lib.hid hh
    clear hh
    by_cases hlt : j < m
    · have hc := HC.out j hlt
      have HS := Lib.hid (hasIn_succ zs k j x HH.out)
      generalize zs.getD (k + j) 0 = y at hc HS
      by_cases hy : (y == x) = true
      · have HY := Lib.hid hy
        go_wp2
        go_ret
        exact ⟨by rw [hasIn_mono zs k (j + 1) m x (by omega) (by rw [HS.out, HY.out])]; rfl, rfl⟩
      · have hy' : (y == x) = false := by simpa using hy
        have HY := Lib.hid hy'
        clear hy
        go_wp2
        go_round
        case rel => exact ⟨j + 1, by omega, by go_num, by rw [HS.out, HY.out]⟩
        case measure => simp [intOf]; omega
    · obtain rfl : j = m := by omega
      go_wp2
      go_ret
      exact ⟨by rw [HH.out]; rfl, rfl⟩

set_option maxRecDepth 100000 in
set_option maxHeartbeats 2000000 in
theorem rfair_main (a : Option Addr) (cap : Nat) (zs : List Int) (n m : Nat) (hlen : zs.length ≤ 1000000) (hcap : zs.length ≤ cap) (hcm : cap ≤ maxLen) (hm1 : 1 ≤ m) (N : Nat) (w : World) (hL : Reads N w a zs) (hn : n ≤ 1000000) (hm : m ≤ 9223372036854775807) :
    Calls Try.prog 15 #[.slice a zs.length cap, .int .i64 (n : Int), .int .i64 (m : Int)] w fun e w' => e = .returned (.bool (fairR zs n m)) ∧ w = w' := by
  have HW := Lib.hid (fairR_iff zs n m (by omega) (by omega))
  unfold maxLen at hcm
  have f1 : decide ((n : Int) < 0) = false := decide_eq_false (by omega)
  have f2 : decide ((m : Int) < 1) = false := decide_eq_false (by omega)
  have HL := Lib.hid hL
  clear hL
  go_enter Try.func15, Try.ntmps15
  go_wp2
  go_loop [7] (fun i => ∃ k : Nat, k ≤ zs.length + 1 ∧ i = .int .i64 k ∧ ∀ i', i' < k → i' + m ≤ zs.length → ∀ a, a < n → hasIn zs i' m (a : Int) = true) (fun i => zs.length + 1 - (intOf i).toNat)
  case atStart => exact ⟨0, Nat.zero_le _, rfl, fun i h => by omega⟩
  case round =>
    obtain ⟨k, hk, rfl, hall⟩ := hrel
    have HA := Lib.hid hall
    clear hall
    by_cases hlt : k + m ≤ zs.length
    · have hml : m ≤ zs.length := by omega
      rcases HL.out with rfl | ⟨b, o, rfl, hb, hcell⟩
      · exfalso; simp at hml; omega
      have HC := Lib.hid hcell
      clear hcell
      go_wp2
      go_loop [8] (fun i => ∃ j : Nat, j ≤ n ∧ i = .int .i64 j ∧ ∀ a, a < j → hasIn zs k m (a : Int) = true) (fun i => n - (intOf i).toNat)
      case atStart => exact ⟨0, Nat.zero_le _, rfl, fun i h => by omega⟩
      case round =>
        obtain ⟨j, hj, rfl, hin⟩ := hrel
        have HI := Lib.hid hin
        clear hin
        by_cases hjn : j < n
        · have HH := Lib.hid (has_any b (o + k) m (cap - k) (j : Int) zs k (by omega) w (fun i hi => by
            have := HC.out (k + i) (by omega)
            rw [← Nat.add_assoc] at this
            exact this))
          cases hr : hasIn zs k m (j : Int) with
          | true =>
            have HR := Lib.hid hr
            rw [hr] at HH
            clear hr
            go_wp2_with (first | (go_at_call 20; refine HH.out.mono ?_; rintro e w1 ⟨rfl, rfl⟩))
            go_round
            case rel => exact ⟨j + 1, by omega, by go_num, fun a ha => by
                          by_cases e : a = j
                          · subst e; exact HR.out
                          · exact HI.out a (by omega)⟩
            case measure => simp [intOf]; omega
          | false =>
            have HR := Lib.hid hr
            rw [hr] at HH
            clear hr
            go_wp2_with (first | (go_at_call 20; refine HH.out.mono ?_; rintro e w1 ⟨rfl, rfl⟩))
            go_ret
            have hf : fairR zs n m = false := by
              cases hx : fairR zs n m with
              | false => rfl
              | true =>
                have := HW.out.1 hx k (j : Int) (by omega) (by omega) (by omega)
                have := (hasIn_iff zs k m (j : Int)).2 (by rw [Int.toNat_natCast] at this; exact this)
                rw [HR.out] at this
                cases this
            exact ⟨by rw [hf]; rfl, rfl⟩
        · obtain rfl : j = n := by omega
          go_wp2
          go_round
          case rel => exact ⟨k + 1, by omega, by go_num, fun i' hi' hw a ha => by
                        by_cases e : i' = k
                        · subst e; exact HI.out a ha
                        · exact HA.out i' (by omega) hw a ha⟩
          case measure => simp [intOf]; omega
    · have hend : Hid (fairR zs n m = true) := by
        apply HW.out.2
        intro i x hi hx hxn
        have := HA.out i (by omega) (by omega) x.toNat (by omega)
        rw [show ((x.toNat : Nat) : Int) = x by omega] at this
        rw [Int.toNat_natCast]
        exact (hasIn_iff _ _ _ _).1 this
      by_cases hml : m ≤ zs.length
      · go_wp2
        go_ret
        exact ⟨by rw [hend.out]; rfl, rfl⟩
      · go_wp2
        go_ret
        exact ⟨by rw [hend.out]; rfl, rfl⟩

set_option maxRecDepth 100000 in
set_option maxHeartbeats 2000000 in
theorem rfair_any (a : Option Addr) (cap : Nat) (zs : List Int) (ag most : Int) (hlen : zs.length ≤ 1000000) (hcap : zs.length ≤ cap) (hcm : cap ≤ maxLen) (N : Nat) (w : World) (hL : Reads N w a zs) (hag : ag ≤ 1000000) (hmo : most ≤ 9223372036854775807) :
    Calls Try.prog 15 #[.slice a zs.length cap, .int .i64 ag, .int .i64 most] w fun e w' => e = .returned (.bool (fairR zs ag most)) ∧ w = w' := by
  by_cases h1 : ag < 0
  · have e : fairR zs ag most = false := by unfold fairR; rw [if_pos (.inl h1)]
    rw [e]
    clear hL e
    go_enter Try.func15, Try.ntmps15
    go_wp2
    go_ret
    exact ⟨rfl, rfl⟩
  by_cases h2 : most < 1
  · have e : fairR zs ag most = false := by unfold fairR; rw [if_pos (.inr h2)]
    rw [e]
    have h1' : 0 ≤ ag := by omega
    clear hL e h1
    go_enter Try.func15, Try.ntmps15
    go_wp2
    go_ret
    exact ⟨rfl, rfl⟩
  obtain ⟨n, rfl⟩ : ∃ n : Nat, ag = (n : Int) := ⟨ag.toNat, by omega⟩
  obtain ⟨m, rfl⟩ : ∃ m : Nat, most = (m : Int) := ⟨most.toNat, by omega⟩
  exact rfair_main a cap zs n m hlen hcap hcm (by omega) N w hL (by omega) (by omega)

theorem cap_le {w : World} {a : Option Addr} {len cap : Nat} {zs : List Int} (h : IsRow .i64 w a len cap zs) : cap ≤ maxLen := by
  rcases h with ⟨_, _, rfl, _⟩ | ⟨_, _, _, hm, _⟩
  · unfold maxLen; omega
  · exact hm

set_option maxRecDepth 100000 in
set_option maxHeartbeats 2000000 in
theorem fair_walk (a : Option Addr) (len cap : Nat) (zs : List Int) (ag most : Int) (w : World) (h : IsRow .i64 w a len cap zs) (wag : (Lit.int .i64 ag).wf = true) (wmo : (Lit.int .i64 most).wf = true) :
    Calls Try.prog 5 #[.slice a len cap, .int .i64 ag, .int .i64 most] w fun e w' => e = .returned (.bool true) ∧ Below w.heap.size w w' := by
  have hmin : IntKind.i64.min = -9223372036854775808 := rfl
  have hmax : IntKind.i64.max = 9223372036854775807 := rfl
  simp only [Lit.wf, Bool.and_eq_true, decide_eq_true_eq] at wag wmo
  obtain ⟨g1, g2⟩ := wag
  obtain ⟨m1, m2⟩ := wmo
  rw [hmin] at g1 m1
  rw [hmax] at g2 m2
  clear hmin hmax
  have hcm := cap_le h
  obtain ⟨n, hn⟩ : ∃ n : Nat, n = min len 150 := ⟨_, rfl⟩
  have hn1 : n ≤ len := by omega
  have hn2 : n ≤ 150 := by omega
  obtain ⟨hl, hr, hm, hlc⟩ := row_reads h n hn1
  generalize zs.take n = xs at hl hr
  obtain ⟨g, hg⟩ : ∃ g : Int, g = min ag 1000 := ⟨_, rfl⟩
  have hg1 : g ≤ 1000 := by omega
  have H1 := Lib.hid (fair_any a cap xs g most (by omega) w hr)
  have H2 := Lib.hid (fun (W : World) (hb : Below w.heap.size w W) => rfair_any a cap xs g most (by omega) (by omega) hcm w.heap.size W (hr.below hb) (by omega) m2)
  rw [hl] at H1 H2
  rw [← fair_eq] at H2
  generalize fair xs g most = x at H1 H2
  have r1 : (x == x) = true := by simp
  unfold maxLen at hcm
  clear h hl hr hm
  rcases Nat.lt_trichotomy len 150 with c1 | c1 | c1
  · obtain rfl : n = len := by omega
    rcases Int.lt_trichotomy ag 1000 with c2 | c2 | c2
    · obtain rfl : g = ag := by omega
      clear hn hg
      go_enter Try.func5, Try.ntmps5
      go_wp2_with (first | (go_at_call 14; refine H1.out.mono ?_; rintro e w1 ⟨rfl, hb1⟩) | (go_at_call 15; refine (H2.out _ (by assumption)).mono ?_; rintro e w2 ⟨rfl, rfl⟩) | (go_at_call 11; refine (works_in w _ (by assumption)).mono ?_; rintro e w1 ⟨rfl, hb1⟩))
      go_ret
      exact ⟨rfl, by assumption⟩
    · subst c2
      obtain rfl : g = 1000 := by omega
      clear hn hg
      go_enter Try.func5, Try.ntmps5
      go_wp2_with (first | (go_at_call 14; refine H1.out.mono ?_; rintro e w1 ⟨rfl, hb1⟩) | (go_at_call 15; refine (H2.out _ (by assumption)).mono ?_; rintro e w2 ⟨rfl, rfl⟩) | (go_at_call 11; refine (works_in w _ (by assumption)).mono ?_; rintro e w1 ⟨rfl, hb1⟩))
      go_ret
      exact ⟨rfl, by assumption⟩
    · obtain rfl : g = 1000 := by omega
      clear hn hg
      go_enter Try.func5, Try.ntmps5
      go_wp2_with (first | (go_at_call 14; refine H1.out.mono ?_; rintro e w1 ⟨rfl, hb1⟩) | (go_at_call 15; refine (H2.out _ (by assumption)).mono ?_; rintro e w2 ⟨rfl, rfl⟩) | (go_at_call 11; refine (works_in w _ (by assumption)).mono ?_; rintro e w1 ⟨rfl, hb1⟩))
      go_ret
      exact ⟨rfl, by assumption⟩
  · subst c1
    obtain rfl : n = 150 := by omega
    rcases Int.lt_trichotomy ag 1000 with c2 | c2 | c2
    · obtain rfl : g = ag := by omega
      clear hn hg
      go_enter Try.func5, Try.ntmps5
      go_wp2_with (first | (go_at_call 14; refine H1.out.mono ?_; rintro e w1 ⟨rfl, hb1⟩) | (go_at_call 15; refine (H2.out _ (by assumption)).mono ?_; rintro e w2 ⟨rfl, rfl⟩) | (go_at_call 11; refine (works_in w _ (by assumption)).mono ?_; rintro e w1 ⟨rfl, hb1⟩))
      go_ret
      exact ⟨rfl, by assumption⟩
    · subst c2
      obtain rfl : g = 1000 := by omega
      clear hn hg
      go_enter Try.func5, Try.ntmps5
      go_wp2_with (first | (go_at_call 14; refine H1.out.mono ?_; rintro e w1 ⟨rfl, hb1⟩) | (go_at_call 15; refine (H2.out _ (by assumption)).mono ?_; rintro e w2 ⟨rfl, rfl⟩) | (go_at_call 11; refine (works_in w _ (by assumption)).mono ?_; rintro e w1 ⟨rfl, hb1⟩))
      go_ret
      exact ⟨rfl, by assumption⟩
    · obtain rfl : g = 1000 := by omega
      clear hn hg
      go_enter Try.func5, Try.ntmps5
      go_wp2_with (first | (go_at_call 14; refine H1.out.mono ?_; rintro e w1 ⟨rfl, hb1⟩) | (go_at_call 15; refine (H2.out _ (by assumption)).mono ?_; rintro e w2 ⟨rfl, rfl⟩) | (go_at_call 11; refine (works_in w _ (by assumption)).mono ?_; rintro e w1 ⟨rfl, hb1⟩))
      go_ret
      exact ⟨rfl, by assumption⟩
  · obtain rfl : n = 150 := by omega
    rcases Int.lt_trichotomy ag 1000 with c2 | c2 | c2
    · obtain rfl : g = ag := by omega
      clear hn hg
      go_enter Try.func5, Try.ntmps5
      go_wp2_with (first | (go_at_call 14; refine H1.out.mono ?_; rintro e w1 ⟨rfl, hb1⟩) | (go_at_call 15; refine (H2.out _ (by assumption)).mono ?_; rintro e w2 ⟨rfl, rfl⟩) | (go_at_call 11; refine (works_in w _ (by assumption)).mono ?_; rintro e w1 ⟨rfl, hb1⟩))
      go_ret
      exact ⟨rfl, by assumption⟩
    · subst c2
      obtain rfl : g = 1000 := by omega
      clear hn hg
      go_enter Try.func5, Try.ntmps5
      go_wp2_with (first | (go_at_call 14; refine H1.out.mono ?_; rintro e w1 ⟨rfl, hb1⟩) | (go_at_call 15; refine (H2.out _ (by assumption)).mono ?_; rintro e w2 ⟨rfl, rfl⟩) | (go_at_call 11; refine (works_in w _ (by assumption)).mono ?_; rintro e w1 ⟨rfl, hb1⟩))
      go_ret
      exact ⟨rfl, by assumption⟩
    · obtain rfl : g = 1000 := by omega
      clear hn hg
      go_enter Try.func5, Try.ntmps5
      go_wp2_with (first | (go_at_call 14; refine H1.out.mono ?_; rintro e w1 ⟨rfl, hb1⟩) | (go_at_call 15; refine (H2.out _ (by assumption)).mono ?_; rintro e w2 ⟨rfl, rfl⟩) | (go_at_call 11; refine (works_in w _ (by assumption)).mono ?_; rintro e w1 ⟨rfl, hb1⟩))
      go_ret
      exact ⟨rfl, by assumption⟩
end Go.Proofs.Ytcgjijcjgchhiaa
