/- An instruction that may be is read again as it was; a word is that of no instruction or is laid again as it was: plain arithmetic (printed by gen-back.py). -/
import Derived.Test.YtoaneiidomdljaaDoorDj
namespace Go.Proofs.YtoaneiidomdljaaDoor


theorem back_ai {op a b c m W : Int} (ho : 1 ≤ op ∧ op ≤ 53) (hf : fm op = ⟨#[97, 105]⟩) (hm : mayB op a b c m = true) (hw : wordOf op a b c m = W) :
    (0 ≤ W ∧ W < 4294967296) ∧ W / 16777216 = op ∧ fA W = a ∧ fB W = b ∧ fC W = c ∧ fM W = m := by
  have h1 := (may_ai ho hf).1 hm
  rw [word_ai hf] at hw
  have ho2 : W / 16777216 = op := by split at hw <;> omega
  have hj : jF W = false := by unfold jF; rw [ho2, hf]; rfl
  unfold fA fB fC fM
  rw [hj]
  simp only [Bool.false_eq_true, if_false]
  unfold sx
  refine ⟨?_, ho2, ?_⟩
  · split at hw <;> omega
  · split at hw <;> split <;> omega

theorem back_aj {op a b c m W : Int} (ho : 1 ≤ op ∧ op ≤ 53) (hf : fm op = ⟨#[97, 106]⟩) (hm : mayB op a b c m = true) (hw : wordOf op a b c m = W) :
    (0 ≤ W ∧ W < 4294967296) ∧ W / 16777216 = op ∧ fA W = a ∧ fB W = b ∧ fC W = c ∧ fM W = m := by
  have h1 := (may_aj ho hf).1 hm
  rw [word_aj hf] at hw
  have ho2 : W / 16777216 = op := by split at hw <;> omega
  have hj : jF W = true := by unfold jF; rw [ho2, hf]; rfl
  unfold fA fB fC fM
  rw [hj]
  simp only [if_true]
  unfold sx
  refine ⟨?_, ho2, ?_⟩
  · split at hw <;> omega
  · split at hw <;> split <;> omega

theorem back_abc {op a b c m W : Int} (ho : 1 ≤ op ∧ op ≤ 53) (hf : fm op = ⟨#[97, 98, 99]⟩) (hm : mayB op a b c m = true) (hw : wordOf op a b c m = W) :
    (0 ≤ W ∧ W < 4294967296) ∧ W / 16777216 = op ∧ fA W = a ∧ fB W = b ∧ fC W = c ∧ fM W = m := by
  have h1 := (may_abc ho hf).1 hm
  rw [word_abc hf] at hw
  have ho2 : W / 16777216 = op := by split at hw <;> omega
  have hj : jF W = false := by unfold jF; rw [ho2, hf]; rfl
  unfold fA fB fC fM
  rw [hj]
  simp only [Bool.false_eq_true, if_false]
  unfold sx
  refine ⟨?_, ho2, ?_⟩
  · split at hw <;> omega
  · split at hw <;> split <;> omega

theorem back_abi {op a b c m W : Int} (ho : 1 ≤ op ∧ op ≤ 53) (hf : fm op = ⟨#[97, 98, 105]⟩) (hm : mayB op a b c m = true) (hw : wordOf op a b c m = W) :
    (0 ≤ W ∧ W < 4294967296) ∧ W / 16777216 = op ∧ fA W = a ∧ fB W = b ∧ fC W = c ∧ fM W = m := by
  have h1 := (may_abi ho hf).1 hm
  rw [word_abi hf] at hw
  have ho2 : W / 16777216 = op := by split at hw <;> omega
  have hj : jF W = false := by unfold jF; rw [ho2, hf]; rfl
  unfold fA fB fC fM
  rw [hj]
  simp only [Bool.false_eq_true, if_false]
  unfold sx
  refine ⟨?_, ho2, ?_⟩
  · split at hw <;> omega
  · split at hw <;> split <;> omega

theorem back_ab {op a b c m W : Int} (ho : 1 ≤ op ∧ op ≤ 53) (hf : fm op = ⟨#[97, 98]⟩) (hm : mayB op a b c m = true) (hw : wordOf op a b c m = W) :
    (0 ≤ W ∧ W < 4294967296) ∧ W / 16777216 = op ∧ fA W = a ∧ fB W = b ∧ fC W = c ∧ fM W = m := by
  have h1 := (may_ab ho hf).1 hm
  rw [word_ab hf] at hw
  have ho2 : W / 16777216 = op := by split at hw <;> omega
  have hj : jF W = false := by unfold jF; rw [ho2, hf]; rfl
  unfold fA fB fC fM
  rw [hj]
  simp only [Bool.false_eq_true, if_false]
  unfold sx
  refine ⟨?_, ho2, ?_⟩
  · split at hw <;> omega
  · split at hw <;> split <;> omega

theorem back_0 {op a b c m W : Int} (ho : 1 ≤ op ∧ op ≤ 53) (hf : fm op = ⟨#[]⟩) (hm : mayB op a b c m = true) (hw : wordOf op a b c m = W) :
    (0 ≤ W ∧ W < 4294967296) ∧ W / 16777216 = op ∧ fA W = a ∧ fB W = b ∧ fC W = c ∧ fM W = m := by
  have h1 := (may_0 ho hf).1 hm
  rw [word_0 hf] at hw
  have ho2 : W / 16777216 = op := by split at hw <;> omega
  have hj : jF W = false := by unfold jF; rw [ho2, hf]; rfl
  unfold fA fB fC fM
  rw [hj]
  simp only [Bool.false_eq_true, if_false]
  unfold sx
  refine ⟨?_, ho2, ?_⟩
  · split at hw <;> omega
  · split at hw <;> split <;> omega

theorem back_i {op a b c m W : Int} (ho : 1 ≤ op ∧ op ≤ 53) (hf : fm op = ⟨#[105]⟩) (hm : mayB op a b c m = true) (hw : wordOf op a b c m = W) :
    (0 ≤ W ∧ W < 4294967296) ∧ W / 16777216 = op ∧ fA W = a ∧ fB W = b ∧ fC W = c ∧ fM W = m := by
  have h1 := (may_i ho hf).1 hm
  rw [word_i hf] at hw
  have ho2 : W / 16777216 = op := by split at hw <;> omega
  have hj : jF W = false := by unfold jF; rw [ho2, hf]; rfl
  unfold fA fB fC fM
  rw [hj]
  simp only [Bool.false_eq_true, if_false]
  unfold sx
  refine ⟨?_, ho2, ?_⟩
  · split at hw <;> omega
  · split at hw <;> split <;> omega

theorem back_all {op a b c m : Int} (hm : mayB op a b c m = true) : (0 ≤ wordOf op a b c m ∧ wordOf op a b c m < 4294967296) ∧ wordOf op a b c m / 16777216 = op ∧ fA (wordOf op a b c m) = a ∧ fB (wordOf op a b c m) = b ∧ fC (wordOf op a b c m) = c ∧ fM (wordOf op a b c m) = m := by
  have ho := (may_bd hm).1
  rcases fm_cases op with hf | hf | hf | hf | hf | hf | hf
  · exact back_ai ho hf hm rfl
  · exact back_aj ho hf hm rfl
  · exact back_abc ho hf hm rfl
  · exact back_abi ho hf hm rfl
  · exact back_ab ho hf hm rfl
  · exact back_0 ho hf hm rfl
  · exact back_i ho hf hm rfl

theorem enc_ok {op a b c m : Int} (h : encE op a b c m = 0) : mayB op a b c m = true := by
  unfold encE at h
  split at h
  · assumption
  · omega

/-- each instruction comes back -/
theorem dec_enc {op a b c m : Int} (h : encE op a b c m = 0) : (0 ≤ encW op a b c m ∧ encW op a b c m < 4294967296) ∧ dO (encW op a b c m) = op ∧ dA (encW op a b c m) = a ∧ dB (encW op a b c m) = b ∧ dC (encW op a b c m) = c ∧ dM (encW op a b c m) = m := by
  have hm := enc_ok h
  have hw : encW op a b c m = wordOf op a b c m := if_pos hm
  obtain ⟨hb, h0, h1, h2, h3, h4⟩ := back_all hm
  rw [hw]
  have hg : good (wordOf op a b c m) = true := by
    refine decide_eq_true ?_
    rw [h0, h1, h2, h3, h4]
    exact ⟨h, hw⟩
  refine ⟨hb, ?_⟩
  unfold dO dA dB dC dM
  rw [if_pos hg, if_pos hg, if_pos hg, if_pos hg, if_pos hg]
  exact ⟨h0, h1, h2, h3, h4⟩

/-- each word is of none, or is laid again as it was -/
theorem enc_dec (W : Int) : (good W = true ∧ 1 ≤ dO W ∧ dO W = W / 16777216 ∧ encE (dO W) (dA W) (dB W) (dC W) (dM W) = 0 ∧ encW (dO W) (dA W) (dB W) (dC W) (dM W) = W) ∨
    (good W = false ∧ dO W = 0 ∧ dA W = 0 ∧ dB W = 0 ∧ dC W = 0 ∧ dM W = 0) := by
  by_cases hg : good W = true
  · left
    have hh := of_decide_eq_true hg
    have e0 : dO W = W / 16777216 := if_pos hg
    have e1 : dA W = fA W := if_pos hg
    have e2 : dB W = fB W := if_pos hg
    have e3 : dC W = fC W := if_pos hg
    have e4 : dM W = fM W := if_pos hg
    rw [e0, e1, e2, e3, e4]
    exact ⟨hg, (may_bd (enc_ok hh.1)).1.1, rfl, hh.1, hh.2⟩
  · right
    exact ⟨by simpa using hg, if_neg hg, if_neg hg, if_neg hg, if_neg hg, if_neg hg⟩
theorem enc_zero : encE 0 0 0 0 0 = 2 ∧ encW 0 0 0 0 0 = 0 := by decide
end Go.Proofs.YtoaneiidomdljaaDoor
