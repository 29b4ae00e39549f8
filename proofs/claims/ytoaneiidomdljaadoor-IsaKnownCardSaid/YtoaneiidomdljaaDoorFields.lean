/- The walk of IsaFields: for every word. -/
import Derived.Test.YtoaneiidomdljaaDoorBack
namespace Go.Proofs.YtoaneiidomdljaaDoor
open Go.RowKit Go.Shelf

theorem form_u (w0 u : World) (hb : Below w0.heap.size w0 u) (ht : Tab w0) (op : Int) (x : ByteArray) (hx : fm op = x) :
    Calls Tryd.prog 15 #[.int .i64 op] u fun e z => e = .returned (.string x) ∧ Below u.heap.size u z := by
  subst hx
  exact form_in u u (Below.refl _ _) (ht.below hb) op

/-- the letters of a form without the letter of a long number -/
theorem nj_letters (op : Int) (h : hasF (fm op) 106 = false) : ∀ k (h : k < (fm op).size), ((fm op)[k]'h).toNat = 97 ∨ ((fm op)[k]'h).toNat = 98 ∨ ((fm op)[k]'h).toNat = 99 ∨ ((fm op)[k]'h).toNat = 105 := by
  rcases fm_cases op with e | e | e | e | e | e | e <;> rw [e] at h ⊢
  · decide
  · exact absurd h (by decide)
  · decide
  · decide
  · decide
  · decide
  · decide
theorem j_form (op : Int) (h : hasF (fm op) 106 = true) : fm op = ⟨#[97, 106]⟩ := by
  rcases fm_cases op with e | e | e | e | e | e | e <;> rw [e] at h ⊢ <;> exact absurd h (by decide)

theorem mask_4095 (n : Int) : bits .and .i64 n 4095 = n % 4096 := by
  have h : (BitVec.ofInt 64 4095).toNat = 2 ^ 12 - 1 := by decide
  have key : (BitVec.ofInt 64 n &&& BitVec.ofInt 64 4095).toNat = (n % ((2 ^ 64 : Nat) : Int)).toNat % 2 ^ 12 := by
    rw [BitVec.toNat_and, BitVec.toNat_ofInt, h, Nat.and_two_pow_sub_one_eq_mod]
  show IntKind.i64.wrap ((BitVec.ofInt 64 n &&& BitVec.ofInt 64 4095).toNat : Nat) = n % 4096
  rw [key, IntKind.wrap_i64]
  omega
theorem mask_1048575 (n : Int) : bits .and .i64 n 1048575 = n % 1048576 := by
  have h : (BitVec.ofInt 64 1048575).toNat = 2 ^ 20 - 1 := by decide
  have key : (BitVec.ofInt 64 n &&& BitVec.ofInt 64 1048575).toNat = (n % ((2 ^ 64 : Nat) : Int)).toNat % 2 ^ 20 := by
    rw [BitVec.toNat_and, BitVec.toNat_ofInt, h, Nat.and_two_pow_sub_one_eq_mod]
  show IntKind.i64.wrap ((BitVec.ofInt 64 n &&& BitVec.ofInt 64 1048575).toNat : Nat) = n % 1048576
  rw [key, IntKind.wrap_i64]
  omega

theorem nj_facts (W : Int) (hW0 : 0 ≤ W) (hW1 : W < 4294967296) (hj : jF W = false) {a' b' c' m' : Int} (h : a' = fA W ∧ b' = fB W ∧ c' = fC W ∧ m' = fM W) :
    (a' != wrap64 (bits BinOp.and IntKind.u32 (W / 1048576) 15)) = false ∧ (b' != wrap64 (bits BinOp.and IntKind.u32 (W / 65536) 15)) = false ∧ (c' != wrap64 (bits BinOp.and IntKind.u32 (W / 4096) 15)) = false ∧
    -524288 ≤ m' ∧ m' < 524288 ∧ bits BinOp.and IntKind.i64 (m' - W) 4095 = 0 := by
  obtain ⟨rfl, rfl, rfl, rfl⟩ := h
  rw [mk_15 (W / 1048576) (by omega) (by omega), mk_15 (W / 65536) (by omega) (by omega), mk_15 (W / 4096) (by omega) (by omega)]
  unfold fA fB fC fM
  rw [hj]
  simp only [Bool.false_eq_true, if_false]
  unfold sx
  rw [mask_4095]
  refine ⟨by simp, by simp, by simp, ?_, ?_, ?_⟩ <;> split <;> omega
theorem j_facts (W : Int) (hW0 : 0 ≤ W) (hW1 : W < 4294967296) (hj : jF W = true) {a' b' c' m' : Int} (h : a' = fA W ∧ b' = fB W ∧ c' = fC W ∧ m' = fM W) :
    (a' != wrap64 (bits BinOp.and IntKind.u32 (W / 1048576) 15)) = false ∧
    -524288 ≤ m' ∧ m' < 524288 ∧ bits BinOp.and IntKind.i64 (m' - W) 1048575 = 0 := by
  obtain ⟨rfl, rfl, rfl, rfl⟩ := h
  rw [mk_15 (W / 1048576) (by omega) (by omega)]
  unfold fA fM
  rw [hj]
  simp only [if_true]
  unfold sx
  rw [mask_1048575]
  refine ⟨by simp, ?_, ?_, ?_⟩ <;> split <;> omega

set_option maxRecDepth 100000 in
set_option maxHeartbeats 4000000 in
theorem fields_walk (w : World) (ht : Tab w) (W : Int) (hW : (Lit.int .u32 W).wf = true) : Calls Tryd.prog 7 #[.int .u32 W] w fun e w' => e = .returned (.bool true) ∧ Below w.heap.size w w' := by
  obtain ⟨hW0, hW1⟩ := bd_wf hW
  clear hW
  have b1 := Below.refl w.heap.size w
  obtain ⟨o', a', b', c', m', hd⟩ : ∃ o' a' b' c' m', dO W = o' ∧ dA W = a' ∧ dB W = b' ∧ dC W = c' ∧ dM W = m' := ⟨_, _, _, _, _, rfl, rfl, rfl, rfl, rfl⟩
  have HD := Lib.hid hd
  clear hd
  go_enter Tryd.func7, Tryd.ntmps7
  go_wp2_with fail
  refine (dec_u w _ b1 ht W o' a' b' c' m' hW0 hW1 HD.out).mono ?_
  rintro e z1 ⟨rfl, h1⟩
  have b2 := b1.trans (h1.mono b1.size)
  have i3 : InsAt (z1.alloc (.cells (insV o' a' b' c' m') 23)) z1.heap.size o' a' b' c' m' := heap_alloc_new _ _
  have b3 := b2.alloc b2.size (.cells (insV o' a' b' c' m') 23)
  obtain ⟨k0, k1, k2, k3, k4⟩ := i3.cells
  by_cases hg : good W = true
  · obtain ⟨hop, hfm⟩ : (1 ≤ o' ∧ o' = W / 16777216) ∧ a' = fA W ∧ b' = fB W ∧ c' = fC W ∧ m' = fM W := by
      obtain ⟨rfl, rfl, rfl, rfl, rfl⟩ := HD.out
      rcases enc_dec W with ⟨_, h1, h2, _⟩ | ⟨h, _⟩
      · exact ⟨⟨h1, h2⟩, if_pos hg, if_pos hg, if_pos hg, if_pos hg⟩
      · rw [hg] at h; cases h
    have HF := Lib.hid hfm
    obtain ⟨ho, ho2⟩ := hop
    have hq1 : (o' == 0) = false := by simp; omega
    have hq2 : (o' != W / 16777216) = false := by simp [ho2]
    have hjf : jF W = hasF (fm o') 106 := by rw [ho2]; rfl
    have HJ := Lib.hid hjf
    clear hfm ho2 HD hg hjf
    go_wp2_with fail
    obtain ⟨S, hS⟩ : ∃ S, fm o' = S := ⟨_, rfl⟩
    have HS := Lib.hid hS
    refine (form_u w _ b3 ht o' S hS).mono ?_
    rintro e z2 ⟨rfl, h2⟩
    have i4 := i3.keep h2
    have b4 := b3.trans (h2.mono b3.size)
    clear k0 k1 k2 k3 k4 hq1 hq2 hS
    obtain ⟨k0, k1, k2, k3, k4⟩ := i4.cells
    by_cases hj : hasF S 106 = true
    · have hs2 : S = ⟨#[97, 106]⟩ := by
        have hs3 := HS.out
        clear HS
        subst hs3
        exact j_form _ hj
      have hjf : jF W = true := by rw [HJ.out, HS.out]; exact hj
      obtain ⟨qa, hm1, hm2, qi⟩ := j_facts W hW0 hW1 hjf HF.out
      clear hj hjf HS HJ HF
      subst hs2
      have x0 : ((⟨#[97, 106]⟩ : ByteArray)[0]'(by decide)).toNat = 97 := by decide
      have x1 : ((⟨#[97, 106]⟩ : ByteArray)[1]'(by decide)).toNat = 106 := by decide
      have xs : (⟨#[97, 106]⟩ : ByteArray).size = 2 := by decide
      go_wp2_with fail
      go_loop [5] (fun t => ∃ k : Nat, k ≤ 2 ∧ t = .int .i64 k) (fun t => 2 - (intOf t).toNat)
      case atStart => exact ⟨0, Nat.zero_le _, rfl⟩
      case round =>
        obtain ⟨k, hk, rfl⟩ := hrel
        rcases (by omega : k = 0 ∨ k = 1 ∨ k = 2) with rfl | rfl | rfl
        · go_wp2_with fail
          go_round
          case rel => exact ⟨0 + 1, by omega, by go_num⟩
          case measure => simp [intOf]
        · go_wp2_with fail
          go_round
          case rel => exact ⟨1 + 1, by omega, by go_num⟩
          case measure => simp [intOf]
        · go_wp2_with fail
          refine (works_in w _ b4 ht).mono ?_
          rintro e v ⟨rfl, hbv⟩
          go_wp2_with fail
          go_ret
          exact ⟨rfl, hbv⟩
    · obtain ⟨hsz, hl⟩ : S.size ≤ 1000 ∧ ∀ k (h : k < S.size), (S[k]'h).toNat = 97 ∨ (S[k]'h).toNat = 98 ∨ (S[k]'h).toNat = 99 ∨ (S[k]'h).toNat = 105 := by
        have hs2 := HS.out
        clear HS
        subst hs2
        exact ⟨fm_size _, nj_letters _ (by simpa using hj)⟩
      have HL := Lib.hid hl
      have hjf : jF W = false := by rw [HJ.out, HS.out]; simpa using hj
      obtain ⟨qa, qb, qc, hm1, hm2, qi⟩ := nj_facts W hW0 hW1 hjf HF.out
      clear hl hj hjf HS HJ HF
      go_wp2_with fail
      go_loop [5] (fun t => ∃ k : Nat, k ≤ S.size ∧ t = .int .i64 k) (fun t => S.size - (intOf t).toNat)
      case atStart => exact ⟨0, Nat.zero_le _, rfl⟩
      case round =>
        obtain ⟨k, hk, rfl⟩ := hrel
        by_cases hlt : k < S.size
        · rcases HL.out k hlt with hx | hx | hx | hx
          all_goals
            go_wp2_with fail
            go_round
            case rel => exact ⟨k + 1, by omega, by go_num⟩
            case measure => simp [intOf]; omega
        · go_wp2_with fail
          refine (works_in w _ b4 ht).mono ?_
          rintro e v ⟨rfl, hbv⟩
          go_wp2_with fail
          go_ret
          exact ⟨rfl, hbv⟩
  · obtain ⟨rfl, rfl, rfl, rfl, rfl⟩ : o' = 0 ∧ a' = 0 ∧ b' = 0 ∧ c' = 0 ∧ m' = 0 := by
      obtain ⟨rfl, rfl, rfl, rfl, rfl⟩ := HD.out
      rcases enc_dec W with ⟨h, _⟩ | ⟨_, h⟩
      · exact absurd h hg
      · exact h
    clear HD hg
    go_wp2_with fail
    refine (works_in w _ b3 ht).mono ?_
    rintro e v ⟨rfl, hbv⟩
    go_wp2_with fail
    go_ret
    exact ⟨rfl, hbv⟩
end Go.Proofs.YtoaneiidomdljaaDoor
