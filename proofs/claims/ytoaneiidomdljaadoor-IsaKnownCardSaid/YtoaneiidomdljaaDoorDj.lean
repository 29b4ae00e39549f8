/- isa.Decode and the document's Decode answer the same instruction (printed by gen-dj.py). -/
import Derived.Test.YtoaneiidomdljaaDoorRDec
namespace Go.Proofs.YtoaneiidomdljaaDoor
open Go.RowKit Go.Shelf

def jF (W : Int) : Bool := hasF (fm (W / 16777216)) 106
def sx (H M W : Int) : Int := if H ≤ W % M then W % M - M else W % M
def fA (W : Int) : Int := W / 1048576 % 16
def fB (W : Int) : Int := if jF W = true then 0 else W / 65536 % 16
def fC (W : Int) : Int := if jF W = true then 0 else W / 4096 % 16
def fM (W : Int) : Int := if jF W = true then sx 524288 1048576 W else sx 2048 4096 W
/-- is the word that of an instruction -/
def good (W : Int) : Bool := decide (encE (W / 16777216) (fA W) (fB W) (fC W) (fM W) = 0 ∧ encW (W / 16777216) (fA W) (fB W) (fC W) (fM W) = W)
def dO (W : Int) : Int := if good W = true then W / 16777216 else 0
def dA (W : Int) : Int := if good W = true then fA W else 0
def dB (W : Int) : Int := if good W = true then fB W else 0
def dC (W : Int) : Int := if good W = true then fC W else 0
def dM (W : Int) : Int := if good W = true then fM W else 0

theorem pick_d (W : Int) : pickI (W / 16777216) (fA W) (fB W) (fC W) (fM W) W = insV (dO W) (dA W) (dB W) (dC W) (dM W) := by
  unfold pickI dO dA dB dC dM
  by_cases h : encE (W / 16777216) (fA W) (fB W) (fC W) (fM W) = 0 ∧ encW (W / 16777216) (fA W) (fB W) (fC W) (fM W) = W
  · have hg : good W = true := decide_eq_true h
    rw [if_pos h, if_pos hg, if_pos hg, if_pos hg, if_pos hg, if_pos hg]
  · have hg : ¬ good W = true := fun e => h (of_decide_eq_true e)
    rw [if_neg h, if_neg hg, if_neg hg, if_neg hg, if_neg hg, if_neg hg]

theorem rdec_in (w0 w : World) (h : Below w0.heap.size w0 w) (W : Int) (hW0 : 0 ≤ W) (hW1 : W < 4294967296) :
    Calls Tryd.prog 14 #[.int .u32 W] w fun e w' => e = .returned (.agg (insV (dO W) (dA W) (dB W) (dC W) (dM W))) ∧ Below w0.heap.size w0 w' := by
  rw [← pick_d]
  by_cases hj : jF W = true
  · have eB : fB W = 0 := if_pos hj
    have eC : fC W = 0 := if_pos hj
    have eM : fM W = sx 524288 1048576 W := if_pos hj
    rw [eB, eC, eM]
    by_cases hc : 524288 ≤ W % 1048576
    · rw [show sx 524288 1048576 W = W % 1048576 - 1048576 from if_pos hc]; exact rdec_j_hi w0 w h W hW0 hW1 hj hc
    · rw [show sx 524288 1048576 W = W % 1048576 from if_neg hc]; exact rdec_j_lo w0 w h W hW0 hW1 hj (by omega)
  · have eB : fB W = W / 65536 % 16 := if_neg hj
    have eC : fC W = W / 4096 % 16 := if_neg hj
    have eM : fM W = sx 2048 4096 W := if_neg hj
    have hj' : jF W = false := by simpa using hj
    rw [eB, eC, eM]
    by_cases hc : 2048 ≤ W % 4096
    · rw [show sx 2048 4096 W = W % 4096 - 4096 from if_pos hc]; exact rdec_n_hi w0 w h W hW0 hW1 hj' hc
    · rw [show sx 2048 4096 W = W % 4096 from if_neg hc]; exact rdec_n_lo w0 w h W hW0 hW1 hj' (by omega)

theorem sg12 (W : Int) : sgv W 12 = sx 2048 4096 W := by
  have e1 : tkv W 0 12 = W % 4096 := by unfold tkv; rw [show W / 2 ^ (0 : Int).toNat = W from Int.ediv_one W]; rfl
  have e2 : tkv W (12 - 1) 1 = W / 2048 % 2 := rfl
  unfold sgv sx
  rw [e1, e2, show (2 : Int) ^ (12 : Int).toNat = 4096 from rfl]
  split <;> omega
theorem sg20 (W : Int) : sgv W 20 = sx 524288 1048576 W := by
  have e1 : tkv W 0 20 = W % 1048576 := by unfold tkv; rw [show W / 2 ^ (0 : Int).toNat = W from Int.ediv_one W]; rfl
  have e2 : tkv W (20 - 1) 1 = W / 524288 % 2 := rfl
  unfold sgv sx
  rw [e1, e2, show (2 : Int) ^ (20 : Int).toNat = 1048576 from rfl]
  split <;> omega

theorem good_iff {op a b c m W : Int} : (encE op a b c m = 0 ∧ encW op a b c m = W) ↔ (mayB op a b c m = true ∧ wordOf op a b c m = W) := by
  unfold encE encW
  by_cases h : mayB op a b c m = true
  · rw [if_pos h, if_pos h]; exact ⟨fun x => ⟨h, x.2⟩, fun x => ⟨rfl, x.2⟩⟩
  · rw [if_neg h, if_neg h]; exact ⟨fun x => absurd x.1 (by omega), fun x => absurd x.1 h⟩
theorem pick_out {op a b c m W : Int} (ho : ¬ (1 ≤ op ∧ op ≤ 53)) : pickI op a b c m W = insV 0 0 0 0 0 := by
  unfold pickI
  rw [if_neg]
  rw [good_iff]
  intro h
  have := h.1
  rw [may_out ho] at this
  cases this
theorem pick_pos {op a b c m W : Int} (h1 : mayB op a b c m = true) (h2 : wordOf op a b c m = W) : pickI op a b c m W = insV op a b c m := if_pos (good_iff.2 ⟨h1, h2⟩)
theorem pick_neg {op a b c m W : Int} (h : ¬ (mayB op a b c m = true ∧ wordOf op a b c m = W)) : pickI op a b c m W = insV 0 0 0 0 0 := if_neg (fun e => h (good_iff.1 e))


theorem word_ai {op a b c m : Int} (hf : fm op = ⟨#[97, 105]⟩) : wordOf op a b c m = op * 16777216 + a * 1048576 + b * 65536 + c * 4096 + (if m < 0 then m + 4096 else m) := by
  unfold wordOf immW
  rw [hf]
  rfl

theorem same_ai (W : Int) (_h0 : 0 ≤ W) (_h1 : W < 4294967296) (hf : fm (W / 16777216) = ⟨#[97, 105]⟩) : pickI (W / 16777216) (tkv W 20 4) 0 0 (sgv W 12) W = pickI (W / 16777216) (fA W) (fB W) (fC W) (fM W) W := by
  by_cases ho : 1 ≤ W / 16777216 ∧ W / 16777216 ≤ 53
  · have hj : ¬ jF W = true := by unfold jF; rw [hf]; decide
    have eA : fA W = W / 1048576 % 16 := rfl
    have eB : fB W = W / 65536 % 16 := if_neg hj
    have eC : fC W = W / 4096 % 16 := if_neg hj
    have eM : fM W = sx 2048 4096 W := if_neg hj
    rw [eA, eB, eC, eM]
    rw [sg12]
    show pickI (W / 16777216) (W / 1048576 % 16) 0 0 (sx 2048 4096 W) W = _
    obtain ⟨s, hs⟩ : ∃ s, sx 2048 4096 W = s := ⟨_, rfl⟩
    have hs2 : (2048 ≤ W % 4096 ∧ s = W % 4096 - 4096) ∨ (W % 4096 < 2048 ∧ s = W % 4096) := by
      rw [← hs]; unfold sx; split <;> omega
    rw [hs]
    clear hs
    have m1 := may_ai (a := (W / 1048576 % 16)) (b := 0) (c := 0) (m := s) ho hf
    have m2 := may_ai (a := (W / 1048576 % 16)) (b := (W / 65536 % 16)) (c := (W / 4096 % 16)) (m := s) ho hf
    have w1 := word_ai (a := (W / 1048576 % 16)) (b := 0) (c := 0) (m := s) hf
    have w2 := word_ai (a := (W / 1048576 % 16)) (b := (W / 65536 % 16)) (c := (W / 4096 % 16)) (m := s) hf
    by_cases g : mayB (W / 16777216) (W / 1048576 % 16) 0 0 s = true ∧ wordOf (W / 16777216) (W / 1048576 % 16) 0 0 s = W
    · have g1 := m1.1 g.1
      have g2 := w1.symm.trans g.2
      have q : (W / 1048576 % 16) = (W / 1048576 % 16) ∧ (W / 65536 % 16) = 0 ∧ (W / 4096 % 16) = 0 ∧ s = s := by
        split at g2 <;> omega
      obtain ⟨q1, q2, q3, q4⟩ := q
      rw [q1, q2, q3, q4]
    · rw [pick_neg g, pick_neg]
      rintro ⟨p1, p2⟩
      have p3 := m2.1 p1
      have p4 := w2.symm.trans p2
      apply g
      have q : (W / 1048576 % 16) = (W / 1048576 % 16) ∧ (W / 65536 % 16) = 0 ∧ (W / 4096 % 16) = 0 ∧ s = s := by
        split at p4 <;> omega
      obtain ⟨q1, q2, q3, q4⟩ := q
      rw [q1, q2, q3, q4] at p1 p2
      exact ⟨p1, p2⟩
  · rw [pick_out ho, pick_out ho]

theorem word_aj {op a b c m : Int} (hf : fm op = ⟨#[97, 106]⟩) : wordOf op a b c m = op * 16777216 + a * 1048576 + b * 65536 + c * 4096 + (if m < 0 then m + 1048576 else m) := by
  unfold wordOf immW
  rw [hf]
  rfl

theorem same_aj (W : Int) (_h0 : 0 ≤ W) (_h1 : W < 4294967296) (hf : fm (W / 16777216) = ⟨#[97, 106]⟩) : pickI (W / 16777216) (tkv W 20 4) 0 0 (sgv W 20) W = pickI (W / 16777216) (fA W) (fB W) (fC W) (fM W) W := by
  have hj : jF W = true := by unfold jF; rw [hf]; rfl
  have eB : fB W = 0 := if_pos hj
  have eC : fC W = 0 := if_pos hj
  have eM : fM W = sx 524288 1048576 W := if_pos hj
  rw [eB, eC, eM, sg20]
  rfl

theorem word_abc {op a b c m : Int} (hf : fm op = ⟨#[97, 98, 99]⟩) : wordOf op a b c m = op * 16777216 + a * 1048576 + b * 65536 + c * 4096 + (if m < 0 then m + 4096 else m) := by
  unfold wordOf immW
  rw [hf]
  rfl

theorem same_abc (W : Int) (_h0 : 0 ≤ W) (_h1 : W < 4294967296) (hf : fm (W / 16777216) = ⟨#[97, 98, 99]⟩) : pickI (W / 16777216) (tkv W 20 4) (tkv W 16 4) (tkv W 12 4) 0 W = pickI (W / 16777216) (fA W) (fB W) (fC W) (fM W) W := by
  by_cases ho : 1 ≤ W / 16777216 ∧ W / 16777216 ≤ 53
  · have hj : ¬ jF W = true := by unfold jF; rw [hf]; decide
    have eA : fA W = W / 1048576 % 16 := rfl
    have eB : fB W = W / 65536 % 16 := if_neg hj
    have eC : fC W = W / 4096 % 16 := if_neg hj
    have eM : fM W = sx 2048 4096 W := if_neg hj
    rw [eA, eB, eC, eM]
    skip
    show pickI (W / 16777216) (W / 1048576 % 16) (W / 65536 % 16) (W / 4096 % 16) 0 W = _
    obtain ⟨s, hs⟩ : ∃ s, sx 2048 4096 W = s := ⟨_, rfl⟩
    have hs2 : (2048 ≤ W % 4096 ∧ s = W % 4096 - 4096) ∨ (W % 4096 < 2048 ∧ s = W % 4096) := by
      rw [← hs]; unfold sx; split <;> omega
    rw [hs]
    clear hs
    have m1 := may_abc (a := (W / 1048576 % 16)) (b := (W / 65536 % 16)) (c := (W / 4096 % 16)) (m := 0) ho hf
    have m2 := may_abc (a := (W / 1048576 % 16)) (b := (W / 65536 % 16)) (c := (W / 4096 % 16)) (m := s) ho hf
    have w1 := word_abc (a := (W / 1048576 % 16)) (b := (W / 65536 % 16)) (c := (W / 4096 % 16)) (m := 0) hf
    have w2 := word_abc (a := (W / 1048576 % 16)) (b := (W / 65536 % 16)) (c := (W / 4096 % 16)) (m := s) hf
    by_cases g : mayB (W / 16777216) (W / 1048576 % 16) (W / 65536 % 16) (W / 4096 % 16) 0 = true ∧ wordOf (W / 16777216) (W / 1048576 % 16) (W / 65536 % 16) (W / 4096 % 16) 0 = W
    · have g1 := m1.1 g.1
      have g2 := w1.symm.trans g.2
      have q : (W / 1048576 % 16) = (W / 1048576 % 16) ∧ (W / 65536 % 16) = (W / 65536 % 16) ∧ (W / 4096 % 16) = (W / 4096 % 16) ∧ s = 0 := by
        split at g2 <;> omega
      obtain ⟨q1, q2, q3, q4⟩ := q
      rw [q1, q2, q3, q4]
    · rw [pick_neg g, pick_neg]
      rintro ⟨p1, p2⟩
      have p3 := m2.1 p1
      have p4 := w2.symm.trans p2
      apply g
      have q : (W / 1048576 % 16) = (W / 1048576 % 16) ∧ (W / 65536 % 16) = (W / 65536 % 16) ∧ (W / 4096 % 16) = (W / 4096 % 16) ∧ s = 0 := by
        split at p4 <;> omega
      obtain ⟨q1, q2, q3, q4⟩ := q
      rw [q1, q2, q3, q4] at p1 p2
      exact ⟨p1, p2⟩
  · rw [pick_out ho, pick_out ho]

theorem word_abi {op a b c m : Int} (hf : fm op = ⟨#[97, 98, 105]⟩) : wordOf op a b c m = op * 16777216 + a * 1048576 + b * 65536 + c * 4096 + (if m < 0 then m + 4096 else m) := by
  unfold wordOf immW
  rw [hf]
  rfl

theorem same_abi (W : Int) (_h0 : 0 ≤ W) (_h1 : W < 4294967296) (hf : fm (W / 16777216) = ⟨#[97, 98, 105]⟩) : pickI (W / 16777216) (tkv W 20 4) (tkv W 16 4) 0 (sgv W 12) W = pickI (W / 16777216) (fA W) (fB W) (fC W) (fM W) W := by
  by_cases ho : 1 ≤ W / 16777216 ∧ W / 16777216 ≤ 53
  · have hj : ¬ jF W = true := by unfold jF; rw [hf]; decide
    have eA : fA W = W / 1048576 % 16 := rfl
    have eB : fB W = W / 65536 % 16 := if_neg hj
    have eC : fC W = W / 4096 % 16 := if_neg hj
    have eM : fM W = sx 2048 4096 W := if_neg hj
    rw [eA, eB, eC, eM]
    rw [sg12]
    show pickI (W / 16777216) (W / 1048576 % 16) (W / 65536 % 16) 0 (sx 2048 4096 W) W = _
    obtain ⟨s, hs⟩ : ∃ s, sx 2048 4096 W = s := ⟨_, rfl⟩
    have hs2 : (2048 ≤ W % 4096 ∧ s = W % 4096 - 4096) ∨ (W % 4096 < 2048 ∧ s = W % 4096) := by
      rw [← hs]; unfold sx; split <;> omega
    rw [hs]
    clear hs
    have m1 := may_abi (a := (W / 1048576 % 16)) (b := (W / 65536 % 16)) (c := 0) (m := s) ho hf
    have m2 := may_abi (a := (W / 1048576 % 16)) (b := (W / 65536 % 16)) (c := (W / 4096 % 16)) (m := s) ho hf
    have w1 := word_abi (a := (W / 1048576 % 16)) (b := (W / 65536 % 16)) (c := 0) (m := s) hf
    have w2 := word_abi (a := (W / 1048576 % 16)) (b := (W / 65536 % 16)) (c := (W / 4096 % 16)) (m := s) hf
    by_cases g : mayB (W / 16777216) (W / 1048576 % 16) (W / 65536 % 16) 0 s = true ∧ wordOf (W / 16777216) (W / 1048576 % 16) (W / 65536 % 16) 0 s = W
    · have g1 := m1.1 g.1
      have g2 := w1.symm.trans g.2
      have q : (W / 1048576 % 16) = (W / 1048576 % 16) ∧ (W / 65536 % 16) = (W / 65536 % 16) ∧ (W / 4096 % 16) = 0 ∧ s = s := by
        split at g2 <;> omega
      obtain ⟨q1, q2, q3, q4⟩ := q
      rw [q1, q2, q3, q4]
    · rw [pick_neg g, pick_neg]
      rintro ⟨p1, p2⟩
      have p3 := m2.1 p1
      have p4 := w2.symm.trans p2
      apply g
      have q : (W / 1048576 % 16) = (W / 1048576 % 16) ∧ (W / 65536 % 16) = (W / 65536 % 16) ∧ (W / 4096 % 16) = 0 ∧ s = s := by
        split at p4 <;> omega
      obtain ⟨q1, q2, q3, q4⟩ := q
      rw [q1, q2, q3, q4] at p1 p2
      exact ⟨p1, p2⟩
  · rw [pick_out ho, pick_out ho]

theorem word_ab {op a b c m : Int} (hf : fm op = ⟨#[97, 98]⟩) : wordOf op a b c m = op * 16777216 + a * 1048576 + b * 65536 + c * 4096 + (if m < 0 then m + 4096 else m) := by
  unfold wordOf immW
  rw [hf]
  rfl

theorem same_ab (W : Int) (_h0 : 0 ≤ W) (_h1 : W < 4294967296) (hf : fm (W / 16777216) = ⟨#[97, 98]⟩) : pickI (W / 16777216) (tkv W 20 4) (tkv W 16 4) 0 0 W = pickI (W / 16777216) (fA W) (fB W) (fC W) (fM W) W := by
  by_cases ho : 1 ≤ W / 16777216 ∧ W / 16777216 ≤ 53
  · have hj : ¬ jF W = true := by unfold jF; rw [hf]; decide
    have eA : fA W = W / 1048576 % 16 := rfl
    have eB : fB W = W / 65536 % 16 := if_neg hj
    have eC : fC W = W / 4096 % 16 := if_neg hj
    have eM : fM W = sx 2048 4096 W := if_neg hj
    rw [eA, eB, eC, eM]
    skip
    show pickI (W / 16777216) (W / 1048576 % 16) (W / 65536 % 16) 0 0 W = _
    obtain ⟨s, hs⟩ : ∃ s, sx 2048 4096 W = s := ⟨_, rfl⟩
    have hs2 : (2048 ≤ W % 4096 ∧ s = W % 4096 - 4096) ∨ (W % 4096 < 2048 ∧ s = W % 4096) := by
      rw [← hs]; unfold sx; split <;> omega
    rw [hs]
    clear hs
    have m1 := may_ab (a := (W / 1048576 % 16)) (b := (W / 65536 % 16)) (c := 0) (m := 0) ho hf
    have m2 := may_ab (a := (W / 1048576 % 16)) (b := (W / 65536 % 16)) (c := (W / 4096 % 16)) (m := s) ho hf
    have w1 := word_ab (a := (W / 1048576 % 16)) (b := (W / 65536 % 16)) (c := 0) (m := 0) hf
    have w2 := word_ab (a := (W / 1048576 % 16)) (b := (W / 65536 % 16)) (c := (W / 4096 % 16)) (m := s) hf
    by_cases g : mayB (W / 16777216) (W / 1048576 % 16) (W / 65536 % 16) 0 0 = true ∧ wordOf (W / 16777216) (W / 1048576 % 16) (W / 65536 % 16) 0 0 = W
    · have g1 := m1.1 g.1
      have g2 := w1.symm.trans g.2
      have q : (W / 1048576 % 16) = (W / 1048576 % 16) ∧ (W / 65536 % 16) = (W / 65536 % 16) ∧ (W / 4096 % 16) = 0 ∧ s = 0 := by
        split at g2 <;> omega
      obtain ⟨q1, q2, q3, q4⟩ := q
      rw [q1, q2, q3, q4]
    · rw [pick_neg g, pick_neg]
      rintro ⟨p1, p2⟩
      have p3 := m2.1 p1
      have p4 := w2.symm.trans p2
      apply g
      have q : (W / 1048576 % 16) = (W / 1048576 % 16) ∧ (W / 65536 % 16) = (W / 65536 % 16) ∧ (W / 4096 % 16) = 0 ∧ s = 0 := by
        split at p4 <;> omega
      obtain ⟨q1, q2, q3, q4⟩ := q
      rw [q1, q2, q3, q4] at p1 p2
      exact ⟨p1, p2⟩
  · rw [pick_out ho, pick_out ho]

theorem word_0 {op a b c m : Int} (hf : fm op = ⟨#[]⟩) : wordOf op a b c m = op * 16777216 + a * 1048576 + b * 65536 + c * 4096 + (if m < 0 then m + 4096 else m) := by
  unfold wordOf immW
  rw [hf]
  rfl

theorem same_0 (W : Int) (_h0 : 0 ≤ W) (_h1 : W < 4294967296) (hf : fm (W / 16777216) = ⟨#[]⟩) : pickI (W / 16777216) 0 0 0 0 W = pickI (W / 16777216) (fA W) (fB W) (fC W) (fM W) W := by
  by_cases ho : 1 ≤ W / 16777216 ∧ W / 16777216 ≤ 53
  · have hj : ¬ jF W = true := by unfold jF; rw [hf]; decide
    have eA : fA W = W / 1048576 % 16 := rfl
    have eB : fB W = W / 65536 % 16 := if_neg hj
    have eC : fC W = W / 4096 % 16 := if_neg hj
    have eM : fM W = sx 2048 4096 W := if_neg hj
    rw [eA, eB, eC, eM]
    skip
    show pickI (W / 16777216) 0 0 0 0 W = _
    obtain ⟨s, hs⟩ : ∃ s, sx 2048 4096 W = s := ⟨_, rfl⟩
    have hs2 : (2048 ≤ W % 4096 ∧ s = W % 4096 - 4096) ∨ (W % 4096 < 2048 ∧ s = W % 4096) := by
      rw [← hs]; unfold sx; split <;> omega
    rw [hs]
    clear hs
    have m1 := may_0 (a := 0) (b := 0) (c := 0) (m := 0) ho hf
    have m2 := may_0 (a := (W / 1048576 % 16)) (b := (W / 65536 % 16)) (c := (W / 4096 % 16)) (m := s) ho hf
    have w1 := word_0 (a := 0) (b := 0) (c := 0) (m := 0) hf
    have w2 := word_0 (a := (W / 1048576 % 16)) (b := (W / 65536 % 16)) (c := (W / 4096 % 16)) (m := s) hf
    by_cases g : mayB (W / 16777216) 0 0 0 0 = true ∧ wordOf (W / 16777216) 0 0 0 0 = W
    · have g1 := m1.1 g.1
      have g2 := w1.symm.trans g.2
      have q : (W / 1048576 % 16) = 0 ∧ (W / 65536 % 16) = 0 ∧ (W / 4096 % 16) = 0 ∧ s = 0 := by
        split at g2 <;> omega
      obtain ⟨q1, q2, q3, q4⟩ := q
      rw [q1, q2, q3, q4]
    · rw [pick_neg g, pick_neg]
      rintro ⟨p1, p2⟩
      have p3 := m2.1 p1
      have p4 := w2.symm.trans p2
      apply g
      have q : (W / 1048576 % 16) = 0 ∧ (W / 65536 % 16) = 0 ∧ (W / 4096 % 16) = 0 ∧ s = 0 := by
        split at p4 <;> omega
      obtain ⟨q1, q2, q3, q4⟩ := q
      rw [q1, q2, q3, q4] at p1 p2
      exact ⟨p1, p2⟩
  · rw [pick_out ho, pick_out ho]

theorem word_i {op a b c m : Int} (hf : fm op = ⟨#[105]⟩) : wordOf op a b c m = op * 16777216 + a * 1048576 + b * 65536 + c * 4096 + (if m < 0 then m + 4096 else m) := by
  unfold wordOf immW
  rw [hf]
  rfl

theorem same_i (W : Int) (_h0 : 0 ≤ W) (_h1 : W < 4294967296) (hf : fm (W / 16777216) = ⟨#[105]⟩) : pickI (W / 16777216) 0 0 0 (sgv W 12) W = pickI (W / 16777216) (fA W) (fB W) (fC W) (fM W) W := by
  by_cases ho : 1 ≤ W / 16777216 ∧ W / 16777216 ≤ 53
  · have hj : ¬ jF W = true := by unfold jF; rw [hf]; decide
    have eA : fA W = W / 1048576 % 16 := rfl
    have eB : fB W = W / 65536 % 16 := if_neg hj
    have eC : fC W = W / 4096 % 16 := if_neg hj
    have eM : fM W = sx 2048 4096 W := if_neg hj
    rw [eA, eB, eC, eM]
    rw [sg12]
    show pickI (W / 16777216) 0 0 0 (sx 2048 4096 W) W = _
    obtain ⟨s, hs⟩ : ∃ s, sx 2048 4096 W = s := ⟨_, rfl⟩
    have hs2 : (2048 ≤ W % 4096 ∧ s = W % 4096 - 4096) ∨ (W % 4096 < 2048 ∧ s = W % 4096) := by
      rw [← hs]; unfold sx; split <;> omega
    rw [hs]
    clear hs
    have m1 := may_i (a := 0) (b := 0) (c := 0) (m := s) ho hf
    have m2 := may_i (a := (W / 1048576 % 16)) (b := (W / 65536 % 16)) (c := (W / 4096 % 16)) (m := s) ho hf
    have w1 := word_i (a := 0) (b := 0) (c := 0) (m := s) hf
    have w2 := word_i (a := (W / 1048576 % 16)) (b := (W / 65536 % 16)) (c := (W / 4096 % 16)) (m := s) hf
    by_cases g : mayB (W / 16777216) 0 0 0 s = true ∧ wordOf (W / 16777216) 0 0 0 s = W
    · have g1 := m1.1 g.1
      have g2 := w1.symm.trans g.2
      have q : (W / 1048576 % 16) = 0 ∧ (W / 65536 % 16) = 0 ∧ (W / 4096 % 16) = 0 ∧ s = s := by
        split at g2 <;> omega
      obtain ⟨q1, q2, q3, q4⟩ := q
      rw [q1, q2, q3, q4]
    · rw [pick_neg g, pick_neg]
      rintro ⟨p1, p2⟩
      have p3 := m2.1 p1
      have p4 := w2.symm.trans p2
      apply g
      have q : (W / 1048576 % 16) = 0 ∧ (W / 65536 % 16) = 0 ∧ (W / 4096 % 16) = 0 ∧ s = s := by
        split at p4 <;> omega
      obtain ⟨q1, q2, q3, q4⟩ := q
      rw [q1, q2, q3, q4] at p1 p2
      exact ⟨p1, p2⟩
  · rw [pick_out ho, pick_out ho]

theorem dec_in (w0 w : World) (h : Below w0.heap.size w0 w) (ht : Tab w0) (W : Int) (hW0 : 0 ≤ W) (hW1 : W < 4294967296) :
    Calls Tryd.prog 13 #[.int .u32 W] w fun e w' => e = .returned (.agg (insV (dO W) (dA W) (dB W) (dC W) (dM W))) ∧ Below w0.heap.size w0 w' := by
  rw [← pick_d]
  rcases fm_cases (W / 16777216) with hf | hf | hf | hf | hf | hf | hf
  · rw [← same_ai W hW0 hW1 hf]; exact dec_ai w0 w h ht W hW0 hW1 hf
  · rw [← same_aj W hW0 hW1 hf]; exact dec_aj w0 w h ht W hW0 hW1 hf
  · rw [← same_abc W hW0 hW1 hf]; exact dec_abc w0 w h ht W hW0 hW1 hf
  · rw [← same_abi W hW0 hW1 hf]; exact dec_abi w0 w h ht W hW0 hW1 hf
  · rw [← same_ab W hW0 hW1 hf]; exact dec_ab w0 w h ht W hW0 hW1 hf
  · rw [← same_0 W hW0 hW1 hf]; exact dec_0 w0 w h ht W hW0 hW1 hf
  · rw [← same_i W hW0 hW1 hf]; exact dec_i w0 w h ht W hW0 hW1 hf
end Go.Proofs.YtoaneiidomdljaaDoor
