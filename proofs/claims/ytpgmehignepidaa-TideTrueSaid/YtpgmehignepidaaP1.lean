/- Plain laws on names. -/
set_option linter.all false
namespace Bx
theorem snoc {p : Nat → Prop} {k : Nat} (h : ∀ i, i < k → p i) (hk : p k) : ∀ i, i < k + 1 → p i := fun i hi => by
  rcases Nat.lt_or_ge i k with e | e
  · exact h i e
  · obtain rfl : i = k := by omega
    exact hk
/-- The byte at i may stand there in a name. -/
def okAt (s : ByteArray) (i : Nat) : Prop := ∀ h : i < s.size, (97 ≤ s[i].toNat ∧ s[i].toNat ≤ 122) ∨ (0 < i ∧ (s[i].toNat = 45 ∨ 48 ≤ s[i].toNat ∧ s[i].toNat ≤ 57))
instance (s : ByteArray) (i : Nat) : Decidable (okAt s i) := by unfold okAt; infer_instance
def isName (s : ByteArray) : Bool := decide (1 ≤ s.size ∧ s.size ≤ 24 ∧ ∀ i, i < s.size → okAt s i)
theorem okAt_of (s : ByteArray) (i : Nat) (h : i < s.size) : okAt s i ↔ (97 ≤ s[i].toNat ∧ s[i].toNat ≤ 122) ∨ (0 < i ∧ (s[i].toNat = 45 ∨ 48 ≤ s[i].toNat ∧ s[i].toNat ≤ 57)) := ⟨fun k => k h, fun k _ => k⟩
theorem isName_bad (s : ByteArray) (k : Nat) (h : k < s.size) (hb : ¬ okAt s k) : isName s = false := by
  unfold isName
  rw [decide_eq_false_iff_not]
  exact fun ⟨_, _, h3⟩ => hb (h3 k h)
theorem isName_size (s : ByteArray) (h : ¬ (1 ≤ (s.size : Int) ∧ (s.size : Int) ≤ 24)) : isName s = false := by
  unfold isName
  rw [decide_eq_false_iff_not]
  exact fun ⟨h1, h2, _⟩ => h (by omega)
theorem isName_good (s : ByteArray) (h1 : 1 ≤ (s.size : Int)) (h2 : (s.size : Int) ≤ 24) (h : ∀ i, i < s.size → okAt s i) : isName s = true := by
  unfold isName
  rw [decide_eq_true_eq]
  exact ⟨by omega, by omega, h⟩
theorem isName_end (s : ByteArray) (h : ∀ i, i < s.size → okAt s i) : isName s = (decide (s ≠ ⟨#[]⟩) && decide ((s.size : Int) ≤ 24)) := by
  have e : s ≠ ⟨#[]⟩ ↔ 1 ≤ s.size := by
    constructor
    · intro hn
      rcases Nat.eq_zero_or_pos s.size with h0 | h0
      · exact absurd (ByteArray.ext (Array.eq_empty_of_size_eq_zero h0)) hn
      · exact h0
    · rintro h1 rfl
      exact absurd h1 (by decide)
  unfold isName
  rw [Bool.eq_iff_iff]
  simp only [decide_eq_true_eq, Bool.and_eq_true, e]
  constructor
  · rintro ⟨h1, h2, _⟩
    exact ⟨h1, by omega⟩
  · rintro ⟨h1, h2⟩
    exact ⟨h1, by omega, h⟩
end Bx
