/- Common: with how many events two histories begin alike. -/
import Derived.Test.YtjgbkicnagcmdaaHLaw
import Derived.Deep.QuietTactic
import Derived.BigQuiet
namespace Go.Proofs.Ytjgbkicnagcmdaa
open Go.RowKit

/-- with how many events two histories begin alike -/
def IsCommon (es fs : List Ev) (i : Nat) : Prop := i ≤ es.length ∧ i ≤ fs.length ∧ (∀ j, j < i → es.getD j .zero0 = fs.getD j .zero0) ∧ (i = es.length ∨ i = fs.length ∨ es.getD i .zero0 ≠ fs.getD i .zero0)
theorem IsCommon.same {es fs : List Ev} {i j : Nat} (h : IsCommon es fs i) (k : IsCommon fs es j) : i = j := by
  obtain ⟨h1, h2, h3, h4⟩ := h
  obtain ⟨k1, k2, k3, k4⟩ := k
  rcases Nat.lt_trichotomy i j with hlt | he | hlt
  · rcases h4 with h4 | h4 | h4
    · omega
    · omega
    · exact absurd (k3 i hlt).symm h4
  · exact he
  · rcases k4 with k4 | k4 | k4
    · omega
    · omega
    · exact absurd (h3 j hlt).symm k4
theorem IsCommon.self {es : List Ev} {i : Nat} (h : IsCommon es es i) : i = es.length := by
  obtain ⟨h1, h2, h3, h4⟩ := h
  rcases h4 with h4 | h4 | h4
  · exact h4
  · exact h4
  · exact absurd rfl h4
theorem IsCommon.least {es xs : List Ev} {i k : Nat} (h : IsCommon es (es.take k ++ xs) i) (hk : k ≤ es.length) : k ≤ i := by
  obtain ⟨h1, h2, h3, h4⟩ := h
  by_cases hlt : i < k
  · have hl : (es.take k).length = k := by simp; omega
    rcases h4 with h4 | h4 | h4
    · omega
    · rw [List.length_append, hl] at h4
      omega
    · refine absurd ?_ h4
      simp only [List.getD]
      rw [List.getElem?_append_left (by omega), List.getElem?_take]
      simp [hlt]
  · omega
theorem evNe_self (e : Ev) : evNe e.kind e.prod e.id e.body e.hep e.hno e.kind e.prod e.id e.body e.hep e.hno = false := by simp [evNe]
theorem evNe_of {e f : Ev} (h : e ≠ f) : evNe e.kind e.prod e.id e.body e.hep e.hno f.kind f.prod f.id f.body f.hep f.hno = true := by
  cases hb : evNe e.kind e.prod e.id e.body e.hep e.hno f.kind f.prod f.id f.body f.hep f.hno with
  | true => rfl
  | false =>
    refine absurd ?_ h
    obtain ⟨a0, a1, a2, a3, a4, a5⟩ := e
    obtain ⟨b0, b1, b2, b3, b4, b5⟩ := f
    simp only [evNe, Bool.not_eq_false', Bool.and_eq_true, beq_iff_eq] at hb
    obtain ⟨⟨⟨⟨⟨rfl, rfl⟩, rfl⟩, rfl⟩, rfl⟩, rfl⟩ := hb
    rfl

end Go.Proofs.Ytjgbkicnagcmdaa
