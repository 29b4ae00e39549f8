/- isa.Encode answers what the document's Encode answers (printed by gen-encin.py). -/
import Derived.Test.YtoaneiidomdljaaDoorEnc
import Derived.Test.YtoaneiidomdljaaDoorRef
import Derived.Test.YtoaneiidomdljaaDoorOp
namespace Go.Proofs.YtoaneiidomdljaaDoor
open Go.RowKit Go.Shelf

theorem nm_ne {op : Int} (h1 : 1 ≤ op) (h2 : op ≤ 53) : (nm op).toList.isEmpty = false := by
  obtain ⟨k, rfl⟩ : ∃ k : Nat, op = k := ⟨op.toNat, by omega⟩
  rw [nm_nat (by omega)]
  exact nm_some k (by omega) (by omega)

theorem may_out {op a b c m : Int} (h : ¬ (1 ≤ op ∧ op ≤ 53)) : mayB op a b c m = false := by
  unfold mayB
  rw [decide_eq_false h]
  rfl

set_option maxHeartbeats 1000000 in
theorem enc_out (w0 w : World) (h : Below w0.heap.size w0 w) (ht : Tab w0) (op a b c m : Int) (ho : ¬ (1 ≤ op ∧ op ≤ 53)) :
    Calls Tryd.prog 10 #[.agg (insV op a b c m)] w fun e w' => e = .returned (.tuple #[.int .u32 (encW op a b c m), .int .i64 (encE op a b c m)]) ∧ Below w0.heap.size w0 w' := by
  have hm : ¬ mayB op a b c m = true := by rw [may_out ho]; simp
  have E1 := Lib.hid (show encW op a b c m = 0 from if_neg hm)
  have E2 := Lib.hid (show encE op a b c m = 2 from if_neg hm)
  obtain ⟨x, hx⟩ : ∃ x, nm op = x := ⟨_, rfl⟩
  have hx1 : x.toList.isEmpty = true := by rw [← hx, nm_zero ho, ByteArray.toList_eq]; rfl
  clear hm ho
  go_enter Tryd.func10, Tryd.ntmps10
  go_wp2_with fail
  refine (name_st w0 w h ht op a b c m x hx).mono ?_
  rintro e w1 ⟨rfl, hi1, hc1, hl1, hb1⟩
  go_wp2_with fail
  go_ret2
  exact ⟨ret_enc (by rw [E1.out]) (by rw [E2.out]), hb1⟩


theorem may_ai {op a b c m : Int} (ho : 1 ≤ op ∧ op ≤ 53) (hf : fm op = ⟨#[97, 105]⟩) : mayB op a b c m = true ↔ (0 ≤ a ∧ a < 16) ∧ b = 0 ∧ c = 0 ∧ (-2048 ≤ m ∧ m < 2048) := by
  unfold mayB fldB
  rw [hf]
  simp only [show hasF ⟨#[97, 105]⟩ 97 = true from rfl, show hasF ⟨#[97, 105]⟩ 98 = false from rfl, show hasF ⟨#[97, 105]⟩ 99 = false from rfl, show hasF ⟨#[97, 105]⟩ 105 = true from rfl, show hasF ⟨#[97, 105]⟩ 106 = false from rfl, Bool.false_eq_true, if_true, if_false, Bool.and_eq_true, decide_eq_true_eq]
  omega
theorem encw_ai {op a b c m : Int} (ho : 1 ≤ op ∧ op ≤ 53) (hf : fm op = ⟨#[97, 105]⟩) : (if (0 ≤ a ∧ a < 16) ∧ b = 0 ∧ c = 0 ∧ (-2048 ≤ m ∧ m < 2048) then op * 16777216 + a % 16 * 1048576 + m % 4096 else 0) = encW op a b c m ∧ (if (0 ≤ a ∧ a < 16) ∧ b = 0 ∧ c = 0 ∧ (-2048 ≤ m ∧ m < 2048) then 0 else 2) = encE op a b c m := by
  have hi := may_ai (a := a) (b := b) (c := c) (m := m) ho hf
  by_cases hC : (0 ≤ a ∧ a < 16) ∧ b = 0 ∧ c = 0 ∧ (-2048 ≤ m ∧ m < 2048)
  · unfold encW encE
    rw [if_pos hC, if_pos hC, if_pos (hi.2 hC), if_pos (hi.2 hC)]
    refine ⟨?_, rfl⟩
    unfold wordOf immW
    rw [hf]
    simp only [show hasF ⟨#[97, 105]⟩ 106 = false from rfl, Bool.false_eq_true, if_false]
    split <;> omega
  · unfold encW encE
    rw [if_neg hC, if_neg hC, if_neg (fun h => hC (hi.1 h)), if_neg (fun h => hC (hi.1 h))]
    exact ⟨rfl, rfl⟩

theorem may_aj {op a b c m : Int} (ho : 1 ≤ op ∧ op ≤ 53) (hf : fm op = ⟨#[97, 106]⟩) : mayB op a b c m = true ↔ (0 ≤ a ∧ a < 16) ∧ b = 0 ∧ c = 0 ∧ (-524288 ≤ m ∧ m < 524288) := by
  unfold mayB fldB
  rw [hf]
  simp only [show hasF ⟨#[97, 106]⟩ 97 = true from rfl, show hasF ⟨#[97, 106]⟩ 98 = false from rfl, show hasF ⟨#[97, 106]⟩ 99 = false from rfl, show hasF ⟨#[97, 106]⟩ 105 = false from rfl, show hasF ⟨#[97, 106]⟩ 106 = true from rfl, Bool.false_eq_true, if_true, if_false, Bool.and_eq_true, decide_eq_true_eq]
  omega
theorem encw_aj {op a b c m : Int} (ho : 1 ≤ op ∧ op ≤ 53) (hf : fm op = ⟨#[97, 106]⟩) : (if (0 ≤ a ∧ a < 16) ∧ b = 0 ∧ c = 0 ∧ (-524288 ≤ m ∧ m < 524288) then op * 16777216 + a % 16 * 1048576 + m % 1048576 else 0) = encW op a b c m ∧ (if (0 ≤ a ∧ a < 16) ∧ b = 0 ∧ c = 0 ∧ (-524288 ≤ m ∧ m < 524288) then 0 else 2) = encE op a b c m := by
  have hi := may_aj (a := a) (b := b) (c := c) (m := m) ho hf
  by_cases hC : (0 ≤ a ∧ a < 16) ∧ b = 0 ∧ c = 0 ∧ (-524288 ≤ m ∧ m < 524288)
  · unfold encW encE
    rw [if_pos hC, if_pos hC, if_pos (hi.2 hC), if_pos (hi.2 hC)]
    refine ⟨?_, rfl⟩
    unfold wordOf immW
    rw [hf]
    simp only [show hasF ⟨#[97, 106]⟩ 106 = true from rfl, if_true]
    split <;> omega
  · unfold encW encE
    rw [if_neg hC, if_neg hC, if_neg (fun h => hC (hi.1 h)), if_neg (fun h => hC (hi.1 h))]
    exact ⟨rfl, rfl⟩

theorem may_abc {op a b c m : Int} (ho : 1 ≤ op ∧ op ≤ 53) (hf : fm op = ⟨#[97, 98, 99]⟩) : mayB op a b c m = true ↔ (0 ≤ a ∧ a < 16) ∧ (0 ≤ b ∧ b < 16) ∧ (0 ≤ c ∧ c < 16) ∧ m = 0 := by
  unfold mayB fldB
  rw [hf]
  simp only [show hasF ⟨#[97, 98, 99]⟩ 97 = true from rfl, show hasF ⟨#[97, 98, 99]⟩ 98 = true from rfl, show hasF ⟨#[97, 98, 99]⟩ 99 = true from rfl, show hasF ⟨#[97, 98, 99]⟩ 105 = false from rfl, show hasF ⟨#[97, 98, 99]⟩ 106 = false from rfl, Bool.false_eq_true, if_true, if_false, Bool.and_eq_true, decide_eq_true_eq]
  omega
theorem encw_abc {op a b c m : Int} (ho : 1 ≤ op ∧ op ≤ 53) (hf : fm op = ⟨#[97, 98, 99]⟩) : (if (0 ≤ a ∧ a < 16) ∧ (0 ≤ b ∧ b < 16) ∧ (0 ≤ c ∧ c < 16) ∧ m = 0 then op * 16777216 + a % 16 * 1048576 + b % 16 * 65536 + c % 16 * 4096 else 0) = encW op a b c m ∧ (if (0 ≤ a ∧ a < 16) ∧ (0 ≤ b ∧ b < 16) ∧ (0 ≤ c ∧ c < 16) ∧ m = 0 then 0 else 2) = encE op a b c m := by
  have hi := may_abc (a := a) (b := b) (c := c) (m := m) ho hf
  by_cases hC : (0 ≤ a ∧ a < 16) ∧ (0 ≤ b ∧ b < 16) ∧ (0 ≤ c ∧ c < 16) ∧ m = 0
  · unfold encW encE
    rw [if_pos hC, if_pos hC, if_pos (hi.2 hC), if_pos (hi.2 hC)]
    refine ⟨?_, rfl⟩
    unfold wordOf immW
    rw [hf]
    simp only [show hasF ⟨#[97, 98, 99]⟩ 106 = false from rfl, Bool.false_eq_true, if_false]
    split <;> omega
  · unfold encW encE
    rw [if_neg hC, if_neg hC, if_neg (fun h => hC (hi.1 h)), if_neg (fun h => hC (hi.1 h))]
    exact ⟨rfl, rfl⟩

theorem may_abi {op a b c m : Int} (ho : 1 ≤ op ∧ op ≤ 53) (hf : fm op = ⟨#[97, 98, 105]⟩) : mayB op a b c m = true ↔ (0 ≤ a ∧ a < 16) ∧ (0 ≤ b ∧ b < 16) ∧ c = 0 ∧ (-2048 ≤ m ∧ m < 2048) := by
  unfold mayB fldB
  rw [hf]
  simp only [show hasF ⟨#[97, 98, 105]⟩ 97 = true from rfl, show hasF ⟨#[97, 98, 105]⟩ 98 = true from rfl, show hasF ⟨#[97, 98, 105]⟩ 99 = false from rfl, show hasF ⟨#[97, 98, 105]⟩ 105 = true from rfl, show hasF ⟨#[97, 98, 105]⟩ 106 = false from rfl, Bool.false_eq_true, if_true, if_false, Bool.and_eq_true, decide_eq_true_eq]
  omega
theorem encw_abi {op a b c m : Int} (ho : 1 ≤ op ∧ op ≤ 53) (hf : fm op = ⟨#[97, 98, 105]⟩) : (if (0 ≤ a ∧ a < 16) ∧ (0 ≤ b ∧ b < 16) ∧ c = 0 ∧ (-2048 ≤ m ∧ m < 2048) then op * 16777216 + a % 16 * 1048576 + b % 16 * 65536 + m % 4096 else 0) = encW op a b c m ∧ (if (0 ≤ a ∧ a < 16) ∧ (0 ≤ b ∧ b < 16) ∧ c = 0 ∧ (-2048 ≤ m ∧ m < 2048) then 0 else 2) = encE op a b c m := by
  have hi := may_abi (a := a) (b := b) (c := c) (m := m) ho hf
  by_cases hC : (0 ≤ a ∧ a < 16) ∧ (0 ≤ b ∧ b < 16) ∧ c = 0 ∧ (-2048 ≤ m ∧ m < 2048)
  · unfold encW encE
    rw [if_pos hC, if_pos hC, if_pos (hi.2 hC), if_pos (hi.2 hC)]
    refine ⟨?_, rfl⟩
    unfold wordOf immW
    rw [hf]
    simp only [show hasF ⟨#[97, 98, 105]⟩ 106 = false from rfl, Bool.false_eq_true, if_false]
    split <;> omega
  · unfold encW encE
    rw [if_neg hC, if_neg hC, if_neg (fun h => hC (hi.1 h)), if_neg (fun h => hC (hi.1 h))]
    exact ⟨rfl, rfl⟩

theorem may_ab {op a b c m : Int} (ho : 1 ≤ op ∧ op ≤ 53) (hf : fm op = ⟨#[97, 98]⟩) : mayB op a b c m = true ↔ (0 ≤ a ∧ a < 16) ∧ (0 ≤ b ∧ b < 16) ∧ c = 0 ∧ m = 0 := by
  unfold mayB fldB
  rw [hf]
  simp only [show hasF ⟨#[97, 98]⟩ 97 = true from rfl, show hasF ⟨#[97, 98]⟩ 98 = true from rfl, show hasF ⟨#[97, 98]⟩ 99 = false from rfl, show hasF ⟨#[97, 98]⟩ 105 = false from rfl, show hasF ⟨#[97, 98]⟩ 106 = false from rfl, Bool.false_eq_true, if_true, if_false, Bool.and_eq_true, decide_eq_true_eq]
  omega
theorem encw_ab {op a b c m : Int} (ho : 1 ≤ op ∧ op ≤ 53) (hf : fm op = ⟨#[97, 98]⟩) : (if (0 ≤ a ∧ a < 16) ∧ (0 ≤ b ∧ b < 16) ∧ c = 0 ∧ m = 0 then op * 16777216 + a % 16 * 1048576 + b % 16 * 65536 else 0) = encW op a b c m ∧ (if (0 ≤ a ∧ a < 16) ∧ (0 ≤ b ∧ b < 16) ∧ c = 0 ∧ m = 0 then 0 else 2) = encE op a b c m := by
  have hi := may_ab (a := a) (b := b) (c := c) (m := m) ho hf
  by_cases hC : (0 ≤ a ∧ a < 16) ∧ (0 ≤ b ∧ b < 16) ∧ c = 0 ∧ m = 0
  · unfold encW encE
    rw [if_pos hC, if_pos hC, if_pos (hi.2 hC), if_pos (hi.2 hC)]
    refine ⟨?_, rfl⟩
    unfold wordOf immW
    rw [hf]
    simp only [show hasF ⟨#[97, 98]⟩ 106 = false from rfl, Bool.false_eq_true, if_false]
    split <;> omega
  · unfold encW encE
    rw [if_neg hC, if_neg hC, if_neg (fun h => hC (hi.1 h)), if_neg (fun h => hC (hi.1 h))]
    exact ⟨rfl, rfl⟩

theorem may_0 {op a b c m : Int} (ho : 1 ≤ op ∧ op ≤ 53) (hf : fm op = ⟨#[]⟩) : mayB op a b c m = true ↔ a = 0 ∧ b = 0 ∧ c = 0 ∧ m = 0 := by
  unfold mayB fldB
  rw [hf]
  simp only [show hasF ⟨#[]⟩ 97 = false from rfl, show hasF ⟨#[]⟩ 98 = false from rfl, show hasF ⟨#[]⟩ 99 = false from rfl, show hasF ⟨#[]⟩ 105 = false from rfl, show hasF ⟨#[]⟩ 106 = false from rfl, Bool.false_eq_true, if_false, Bool.and_eq_true, decide_eq_true_eq]
  omega
theorem encw_0 {op a b c m : Int} (ho : 1 ≤ op ∧ op ≤ 53) (hf : fm op = ⟨#[]⟩) : (if a = 0 ∧ b = 0 ∧ c = 0 ∧ m = 0 then op * 16777216 else 0) = encW op a b c m ∧ (if a = 0 ∧ b = 0 ∧ c = 0 ∧ m = 0 then 0 else 2) = encE op a b c m := by
  have hi := may_0 (a := a) (b := b) (c := c) (m := m) ho hf
  by_cases hC : a = 0 ∧ b = 0 ∧ c = 0 ∧ m = 0
  · unfold encW encE
    rw [if_pos hC, if_pos hC, if_pos (hi.2 hC), if_pos (hi.2 hC)]
    refine ⟨?_, rfl⟩
    unfold wordOf immW
    rw [hf]
    simp only [show hasF ⟨#[]⟩ 106 = false from rfl, Bool.false_eq_true, if_false]
    split <;> omega
  · unfold encW encE
    rw [if_neg hC, if_neg hC, if_neg (fun h => hC (hi.1 h)), if_neg (fun h => hC (hi.1 h))]
    exact ⟨rfl, rfl⟩

theorem may_i {op a b c m : Int} (ho : 1 ≤ op ∧ op ≤ 53) (hf : fm op = ⟨#[105]⟩) : mayB op a b c m = true ↔ a = 0 ∧ b = 0 ∧ c = 0 ∧ (-2048 ≤ m ∧ m < 2048) := by
  unfold mayB fldB
  rw [hf]
  simp only [show hasF ⟨#[105]⟩ 97 = false from rfl, show hasF ⟨#[105]⟩ 98 = false from rfl, show hasF ⟨#[105]⟩ 99 = false from rfl, show hasF ⟨#[105]⟩ 105 = true from rfl, show hasF ⟨#[105]⟩ 106 = false from rfl, Bool.false_eq_true, if_true, if_false, Bool.and_eq_true, decide_eq_true_eq]
  omega
theorem encw_i {op a b c m : Int} (ho : 1 ≤ op ∧ op ≤ 53) (hf : fm op = ⟨#[105]⟩) : (if a = 0 ∧ b = 0 ∧ c = 0 ∧ (-2048 ≤ m ∧ m < 2048) then op * 16777216 + m % 4096 else 0) = encW op a b c m ∧ (if a = 0 ∧ b = 0 ∧ c = 0 ∧ (-2048 ≤ m ∧ m < 2048) then 0 else 2) = encE op a b c m := by
  have hi := may_i (a := a) (b := b) (c := c) (m := m) ho hf
  by_cases hC : a = 0 ∧ b = 0 ∧ c = 0 ∧ (-2048 ≤ m ∧ m < 2048)
  · unfold encW encE
    rw [if_pos hC, if_pos hC, if_pos (hi.2 hC), if_pos (hi.2 hC)]
    refine ⟨?_, rfl⟩
    unfold wordOf immW
    rw [hf]
    simp only [show hasF ⟨#[105]⟩ 106 = false from rfl, Bool.false_eq_true, if_false]
    split <;> omega
  · unfold encW encE
    rw [if_neg hC, if_neg hC, if_neg (fun h => hC (hi.1 h)), if_neg (fun h => hC (hi.1 h))]
    exact ⟨rfl, rfl⟩

theorem enc_in (w0 w : World) (h : Below w0.heap.size w0 w) (ht : Tab w0) (op a b c m : Int) :
    Calls Tryd.prog 10 #[.agg (insV op a b c m)] w fun e w' => e = .returned (.tuple #[.int .u32 (encW op a b c m), .int .i64 (encE op a b c m)]) ∧ Below w0.heap.size w0 w' := by
  by_cases ho : 1 ≤ op ∧ op ≤ 53
  · have hx1 := nm_ne ho.1 ho.2
    rcases fm_cases op with hf | hf | hf | hf | hf | hf | hf
    · refine (enc_ai w0 w h ht op a b c m ho.1 ho.2 _ rfl hx1 hf).mono ?_
      rintro e w' ⟨rfl, hb⟩
      exact ⟨ret_enc (encw_ai ho hf).1 (encw_ai ho hf).2, hb⟩
    · refine (enc_aj w0 w h ht op a b c m ho.1 ho.2 _ rfl hx1 hf).mono ?_
      rintro e w' ⟨rfl, hb⟩
      exact ⟨ret_enc (encw_aj ho hf).1 (encw_aj ho hf).2, hb⟩
    · refine (enc_abc w0 w h ht op a b c m ho.1 ho.2 _ rfl hx1 hf).mono ?_
      rintro e w' ⟨rfl, hb⟩
      exact ⟨ret_enc (encw_abc ho hf).1 (encw_abc ho hf).2, hb⟩
    · refine (enc_abi w0 w h ht op a b c m ho.1 ho.2 _ rfl hx1 hf).mono ?_
      rintro e w' ⟨rfl, hb⟩
      exact ⟨ret_enc (encw_abi ho hf).1 (encw_abi ho hf).2, hb⟩
    · refine (enc_ab w0 w h ht op a b c m ho.1 ho.2 _ rfl hx1 hf).mono ?_
      rintro e w' ⟨rfl, hb⟩
      exact ⟨ret_enc (encw_ab ho hf).1 (encw_ab ho hf).2, hb⟩
    · refine (enc_0 w0 w h ht op a b c m ho.1 ho.2 _ rfl hx1 hf).mono ?_
      rintro e w' ⟨rfl, hb⟩
      exact ⟨ret_enc (encw_0 ho hf).1 (encw_0 ho hf).2, hb⟩
    · refine (enc_i w0 w h ht op a b c m ho.1 ho.2 _ rfl hx1 hf).mono ?_
      rintro e w' ⟨rfl, hb⟩
      exact ⟨ret_enc (encw_i ho hf).1 (encw_i ho hf).2, hb⟩
  · exact enc_out w0 w h ht op a b c m ho
end Go.Proofs.YtoaneiidomdljaaDoor
