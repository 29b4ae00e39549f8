/- Plain lists and numbers for the sched laws: when each agent was picked last, and that nobody waited too long just where each agent stands among any most of the picked that stand one behind the other; no program in sight. -/
import Derived.Below
namespace Go.Proofs.Ytcgjijcjgchhiaa

/-- where a was picked last among the first k; -1, if it was not -/
def lastAt (zs : List Int) : Nat → Int → Int
  | 0, _ => -1
  | k + 1, a => if zs.getD k 0 = a then (k : Int) else lastAt zs k a

theorem lastAt_spec (zs : List Int) (a : Int) : ∀ k : Nat, -1 ≤ lastAt zs k a ∧ lastAt zs k a < k ∧ (∀ p : Nat, lastAt zs k a = (p : Int) → zs.getD p 0 = a) ∧ (∀ j : Nat, lastAt zs k a < (j : Int) → j < k → zs.getD j 0 ≠ a)
  | 0 => by simp only [lastAt]; exact ⟨by omega, by omega, fun p h => by omega, fun j _ h => by omega⟩
  | k + 1 => by
    obtain ⟨h1, h2, h3, h4⟩ := lastAt_spec zs a k
    simp only [lastAt]
    by_cases h : zs.getD k 0 = a
    · rw [if_pos h]
      exact ⟨by omega, by omega, fun p hp => by obtain rfl : k = p := by omega
                                                exact h, fun j hj hk => by omega⟩
    · rw [if_neg h]
      refine ⟨h1, by omega, h3, fun j hj hk => ?_⟩
      by_cases e : j = k
      · subst e; exact h
      · exact h4 j hj (by omega)

def inR (ag a : Int) : Bool := decide (0 ≤ a ∧ a < ag)
/-- waited too long at the place k -/
def lateAt (zs : List Int) (most : Int) (k : Nat) (a : Int) : Bool := decide (most < (k : Int) - lastAt zs k a)

def fairTo (zs : List Int) (ag most : Int) : Nat → Bool
  | 0 => true
  | k + 1 => fairTo zs ag most k && !(inR ag (zs.getD k 0) && lateAt zs most k (zs.getD k 0))

def fairEnd (zs : List Int) (ag most : Int) : Bool := (List.range ag.toNat).all fun a => !lateAt zs most zs.length (a : Int)

def fair (zs : List Int) (ag most : Int) : Bool :=
  if ag < 0 ∨ most < 1 then false else if ag = 0 ∨ (zs.length : Int) < most then true else if most < ag then false else fairTo zs ag most zs.length && fairEnd zs ag most

/-- does a stand among the numbers from place i on, m of them -/
def hasIn (zs : List Int) (i m : Nat) (a : Int) : Bool := (List.range m).any fun j => zs.getD (i + j) 0 == a

def fairR (zs : List Int) (ag most : Int) : Bool :=
  if ag < 0 ∨ most < 1 then false else (List.range (zs.length + 1)).all fun i => !decide ((i : Int) + most ≤ zs.length) || (List.range ag.toNat).all fun a => hasIn zs i most.toNat (a : Int)

theorem hasIn_iff (zs : List Int) (i m : Nat) (a : Int) : hasIn zs i m a = true ↔ ∃ j, i ≤ j ∧ j < i + m ∧ zs.getD j 0 = a := by
  unfold hasIn
  rw [List.any_eq_true]
  constructor
  · rintro ⟨j, hj, he⟩
    exact ⟨i + j, by omega, by have := List.mem_range.1 hj; omega, by simpa using he⟩
  · rintro ⟨j, h1, h2, h3⟩
    exact ⟨j - i, List.mem_range.2 (by omega), by rw [show i + (j - i) = j by omega]; simpa using h3⟩

theorem fairTo_iff (zs : List Int) (ag most : Int) : ∀ k, fairTo zs ag most k = true ↔ ∀ j, j < k → inR ag (zs.getD j 0) = true → lateAt zs most j (zs.getD j 0) = false
  | 0 => by simp [fairTo]
  | k + 1 => by
    rw [fairTo, Bool.and_eq_true, fairTo_iff zs ag most k]
    constructor
    · rintro ⟨h1, h2⟩ j hj hr
      by_cases e : j = k
      · subst e
        cases hl : lateAt zs most j (zs.getD j 0)
        · rfl
        · rw [hr, hl] at h2; cases h2
      · exact h1 j (by omega) hr
    · intro h
      refine ⟨fun j hj hr => h j (by omega) hr, ?_⟩
      cases hr : inR ag (zs.getD k 0)
      · rfl
      · rw [h k (by omega) hr]; rfl

theorem fairEnd_iff (zs : List Int) (ag most : Int) (h0 : 0 ≤ ag) : fairEnd zs ag most = true ↔ ∀ a : Int, 0 ≤ a → a < ag → lateAt zs most zs.length a = false := by
  unfold fairEnd
  rw [List.all_eq_true]
  constructor
  · intro h a ha hb
    have := h a.toNat (List.mem_range.2 (by omega))
    rw [show ((a.toNat : Nat) : Int) = a by omega] at this
    simpa using this
  · intro h a ha
    have := h (a : Int) (by omega) (by have := List.mem_range.1 ha; omega)
    rw [this]; rfl

theorem pig : ∀ (m n : Nat) (f : Nat → Nat), (∀ a, a < n → f a < m) → (∀ a b, a < n → b < n → f a = f b → a = b) → n ≤ m
  | 0, n, f, h1, _ => by
    cases n with
    | zero => omega
    | succ n => exact absurd (h1 0 (by omega)) (by omega)
  | m + 1, 0, _, _, _ => by omega
  | m + 1, n + 1, f, h1, h2 => by
    have := pig m n (fun a => if f a = m then f n else f a) (fun a ha => by
      show (if f a = m then f n else f a) < m
      by_cases e : f a = m
      · rw [if_pos e]
        have l := h1 n (by omega)
        have ne : f n ≠ m := fun e' => by have := h2 a n (by omega) (by omega) (by rw [e, e']); omega
        omega
      · rw [if_neg e]
        have l := h1 a (by omega)
        omega) (fun a b ha hb he => by
      by_cases e : f a = m <;> by_cases e' : f b = m
      · exact h2 a b (by omega) (by omega) (by rw [e, e'])
      · simp only [if_pos e, if_neg e'] at he
        have := h2 n b (by omega) (by omega) he; omega
      · simp only [if_neg e, if_pos e'] at he
        have := h2 a n (by omega) (by omega) he; omega
      · simp only [if_neg e, if_neg e'] at he
        exact h2 a b (by omega) (by omega) he)
    omega

theorem fairR_iff (zs : List Int) (ag most : Int) (h0 : 0 ≤ ag) (h1 : 1 ≤ most) : fairR zs ag most = true ↔ ∀ (i : Nat) (a : Int), (i : Int) + most ≤ zs.length → 0 ≤ a → a < ag → ∃ j, i ≤ j ∧ j < i + most.toNat ∧ zs.getD j 0 = a := by
  unfold fairR
  rw [if_neg (by omega), List.all_eq_true]
  constructor
  · intro h i a hi ha hb
    have g := h i (List.mem_range.2 (by omega))
    rw [decide_eq_true hi] at g
    simp only [Bool.not_true, Bool.false_or, List.all_eq_true] at g
    have := g a.toNat (List.mem_range.2 (by omega))
    rw [show ((a.toNat : Nat) : Int) = a by omega] at this
    exact (hasIn_iff _ _ _ _).1 this
  · intro h i _
    by_cases hi : (i : Int) + most ≤ zs.length
    · rw [decide_eq_true hi]
      simp only [Bool.not_true, Bool.false_or, List.all_eq_true]
      intro a ha
      exact (hasIn_iff _ _ _ _).2 (h i a hi (by omega) (by have := List.mem_range.1 ha; omega))
    · rw [decide_eq_false hi]; rfl

theorem fair_eq (zs : List Int) (ag most : Int) : fair zs ag most = fairR zs ag most := by
  by_cases h : ag < 0 ∨ most < 1
  · unfold fair fairR; rw [if_pos h, if_pos h]
  have h0 : 0 ≤ ag := by omega
  have h1 : 1 ≤ most := by omega
  rw [Bool.eq_iff_iff, fairR_iff zs ag most h0 h1]
  unfold fair
  rw [if_neg h]
  by_cases h2 : ag = 0 ∨ (zs.length : Int) < most
  · rw [if_pos h2]
    exact ⟨(fun _ i a hi ha hb => by omega), fun _ => rfl⟩
  rw [if_neg h2]
  by_cases h3 : most < ag
  · rw [if_pos h3]
    refine ⟨(fun e => by cases e), fun g => ?_⟩
    exfalso
    have g0 : ∀ a : Nat, a < ag.toNat → ∃ j, j < most.toNat ∧ zs.getD j 0 = (a : Int) := fun a ha => by
      obtain ⟨j, _, hj, e⟩ := g 0 (a : Int) (by omega) (by omega) (by omega)
      exact ⟨j, by omega, e⟩
    have := pig most.toNat ag.toNat (fun a => if ha : a < ag.toNat then Classical.choose (g0 a ha) else 0) (fun a ha => by
      simp only [dif_pos ha]; exact (Classical.choose_spec (g0 a ha)).1) (fun a b ha hb he => by
      simp only [dif_pos ha, dif_pos hb] at he
      have e1 := (Classical.choose_spec (g0 a ha)).2
      have e2 := (Classical.choose_spec (g0 b hb)).2
      rw [he, e2] at e1
      omega)
    omega
  rw [if_neg h3, Bool.and_eq_true, fairTo_iff, fairEnd_iff _ _ _ h0]
  constructor
  · rintro ⟨gt, ge⟩ i a hi ha hb
    -- else nobody a stands from i on till the next, or till the end
    apply Classical.byContradiction
    intro hno
    have hno' : ∀ j, i ≤ j → j < i + most.toNat → zs.getD j 0 ≠ a := fun j h1 h2 h3 => hno ⟨j, h1, h2, h3⟩
    have key : ∀ q : Nat, i + most.toNat ≤ q → q ≤ zs.length → (∀ j, i ≤ j → j < q → zs.getD j 0 ≠ a) → lateAt zs most q a = true := fun q hq _ hn => by
      obtain ⟨s1, s2, s3, s4⟩ := lastAt_spec zs a q
      have : lastAt zs q a < i := by
        apply Classical.byContradiction
        intro hge
        obtain ⟨p, hp⟩ : ∃ p : Nat, lastAt zs q a = (p : Int) := ⟨(lastAt zs q a).toNat, by omega⟩
        exact hn p (by omega) (by omega) (s3 p hp)
      exact decide_eq_true (by omega)
    have walk : ∀ d : Nat, ∀ q, q = i + most.toNat + d → q ≤ zs.length → (∀ j, i ≤ j → j < q → zs.getD j 0 ≠ a) := by
      intro d
      induction d with
      | zero => intro q hq _ j h1 h2; exact hno' j h1 (by omega)
      | succ d ih =>
        intro q hq hl j h1 h2
        by_cases e : j = i + most.toNat + d
        · intro hja
          have hn := ih j e (by omega)
          have l := key j (by omega) (by omega) hn
          have := gt j (by omega) (by rw [hja]; exact decide_eq_true ⟨ha, hb⟩)
          rw [hja, l] at this
          cases this
        · exact ih (i + most.toNat + d) rfl (by omega) j h1 (by omega)
    have hn := walk (zs.length - (i + most.toNat)) zs.length (by omega) (Nat.le_refl _)
    have l := key zs.length (by omega) (Nat.le_refl _) hn
    rw [ge a ha hb] at l
    cases l
  · intro g
    have key : ∀ q : Nat, q ≤ zs.length → ∀ a : Int, 0 ≤ a → a < ag → lateAt zs most q a = false := fun q hq a ha hb => by
      apply decide_eq_false
      intro hl
      obtain ⟨s1, s2, s3, s4⟩ := lastAt_spec zs a q
      obtain ⟨j, j1, j2, j3⟩ := g (lastAt zs q a + 1).toNat a (by omega) ha hb
      exact s4 j (by omega) (by omega) j3
    refine ⟨fun j hj hr => ?_, fun a ha hb => key _ (Nat.le_refl _) a ha hb⟩
    have hr' := of_decide_eq_true hr
    exact key j (by omega) _ hr'.1 hr'.2
end Go.Proofs.Ytcgjijcjgchhiaa
