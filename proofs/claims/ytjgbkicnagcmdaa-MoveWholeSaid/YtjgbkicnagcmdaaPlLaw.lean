/- Queues: what holds of what 'played' makes (plain). -/
import Derived.Test.YtjgbkicnagcmdaaCount
namespace Go.Proofs.Ytjgbkicnagcmdaa

theorem evOf_prod (k a b c : Int) : 0 ≤ (evOf k a b c).prod ∧ (evOf k a b c).prod ≤ 1 := by
  have a1 := pick_lo a 2 (by omega)
  have a2 := pick_hi a 2 (by omega)
  unfold evOf
  split
  · exact ⟨a1, by show pick a 2 ≤ 1; omega⟩
  · split
    · exact ⟨by simp, by simp⟩
    · split <;> exact ⟨by simp, by simp⟩
theorem QM.step_win {q : QM} {e : Ev} (i : Nat) (hi : e.prod.toNat ≠ i) : (q.step e).1.t i = q.t i ∧ (q.step e).1.S i = q.S i := by
  unfold QM.step
  split
  · split
    · exact ⟨rfl, rfl⟩
    · split
      · exact ⟨rfl, rfl⟩
      · simp only [QM.pub, setF]
        rw [if_neg (Ne.symm hi), if_neg (Ne.symm hi)]
        exact ⟨rfl, rfl⟩
  · split
    · unfold QM.recv
      split <;> exact ⟨rfl, rfl⟩
    · split
      · split
        · split <;> exact ⟨rfl, rfl⟩
        · exact ⟨rfl, rfl⟩
      · exact ⟨rfl, rfl⟩
theorem playN_win (rows : List (List Int)) (i : Nat) (hi : 2 ≤ i) : ∀ k, (playN rows k).q.t i = 0 ∧ (playN rows k).q.S i = fun _ => false
  | 0 => ⟨rfl, rfl⟩
  | k + 1 => by
    have h := playN_win rows i hi k
    have hp := evOf_prod ((rows.getD k []).getD 0 0) ((rows.getD k []).getD 1 0) ((rows.getD k []).getD 2 0) ((rows.getD k []).getD 3 0)
    have hs := QM.step_win (q := (playN rows k).q) (e := evIn rows k) i (by unfold evIn; omega)
    exact ⟨hs.1.trans h.1, hs.2.trans h.2⟩
/-- how many -/
structure PL.Keeps (p : PL) : Prop where
  len : p.q.rd.length + p.q.ls.length + p.es.countP (isKind 3) = p.es.countP (isKind 1)
  ep : p.q.ep = (p.es.countP (isKind 4) : Nat)
  nx : p.q.nx = (p.es.countP (isKind 1) : Nat)
theorem eraseP_len (no : Int) (l : List (Int × Int × Int)) (h : l.any (isNo no) = true) : (l.eraseP (isNo no)).length + 1 = l.length := by
  obtain ⟨a, ha, hp⟩ := List.any_eq_true.1 h
  have := List.length_eraseP_of_mem ha hp
  have hpos := List.length_pos_of_mem ha
  omega
theorem PL.Keeps.next {p : PL} (h : p.Keeps) (e : Ev) (he : e.check = 0) : (p.next e).Keeps := by
  obtain ⟨h1, h2, h3⟩ := h
  have hsame : (p.q.step e).2.2 = false → (p.next e).Keeps := fun hc => by
    have := QM.step_same hc
    unfold PL.next
    rw [hc, this]
    exact ⟨h1, h2, h3⟩
  by_cases hc : (p.q.step e).2.2 = true
  · have hn : p.next e = ⟨(p.q.step e).1, p.es ++ [e], p.ans ++ [(p.q.step e).2.1]⟩ := by unfold PL.next; rw [hc]; rfl
    rw [hn]
    have hcnt : ∀ k, (p.es ++ [e]).countP (isKind k) = p.es.countP (isKind k) + (if e.kind = k then 1 else 0) := fun k => by
      rw [List.countP_append]; simp [List.countP_cons, isKind]
    revert hc
    rcases check_kinds he with hk | hk | hk | hk
    · unfold QM.step
      rw [if_pos hk]
      split
      · simp
      · split
        · simp
        · intro _
          refine ⟨?_, ?_, ?_⟩
          · dsimp only [QM.pub]; rw [hcnt, hcnt, hk]; simp; omega
          · dsimp only [QM.pub]; rw [hcnt, hk]; simpa using h2
          · dsimp only [QM.pub]; rw [hcnt, hk, h3]; simp
    · unfold QM.step
      rw [if_neg (by omega), if_pos hk]
      unfold QM.recv
      split
      · simp
      · next m rd hrd =>
        intro _
        rw [hrd] at h1
        refine ⟨?_, ?_, ?_⟩
        · dsimp only; rw [hcnt, hcnt, hk]; simp at h1 ⊢; omega
        · dsimp only; rw [hcnt, hk]; simpa using h2
        · dsimp only; rw [hcnt, hk]; simpa using h3
    · unfold QM.step
      rw [if_neg (by omega), if_neg (by omega), if_pos hk]
      split
      · split
        · next ha =>
          intro _
          have hl := eraseP_len e.hno p.q.ls ha
          refine ⟨?_, ?_, ?_⟩
          · dsimp only [QM.ack]; rw [hcnt, hcnt, hk]; simp; omega
          · dsimp only [QM.ack]; rw [hcnt, hk]; simpa using h2
          · dsimp only [QM.ack]; rw [hcnt, hk]; simpa using h3
        · simp
      · simp
    · unfold QM.step
      rw [if_neg (by omega), if_neg (by omega), if_neg (by omega)]
      intro _
      refine ⟨?_, ?_, ?_⟩
      · dsimp only [QM.endAll]; rw [hcnt, hcnt, hk]; simp; omega
      · dsimp only [QM.endAll]; rw [hcnt, hk, h2]; simp
      · dsimp only [QM.endAll]; rw [hcnt, hk]; simpa using h3
  · exact hsame (by simpa using hc)
theorem playN_keeps (rows : List (List Int)) : ∀ k, (playN rows k).Keeps
  | 0 => ⟨rfl, rfl, rfl⟩
  | k + 1 => (playN_keeps rows k).next _ (evOf_chk _ _ _ _)
theorem QM.step_nx (q : QM) (e : Ev) : q.nx ≤ (q.step e).1.nx := by
  unfold QM.step
  split
  · split
    · exact Int.le_refl _
    · split
      · exact Int.le_refl _
      · simp only [QM.pub]; omega
  · split
    · unfold QM.recv
      split <;> exact Int.le_refl _
    · split
      · split
        · split <;> exact Int.le_refl _
        · exact Int.le_refl _
      · exact Int.le_refl _
theorem playN_first (rows : List (List Int)) (h : pick ((rows.getD 0 []).getD 0 0) 8 < 3) : ∀ k, 1 ≤ (playN rows (k + 1)).q.nx
  | 0 => by
    have b1 := pick_lo ((rows.getD 0 []).getD 2 0) 24 (by omega)
    show 1 ≤ (QM.zero.step (evIn rows 0)).1.nx
    unfold evIn evOf
    rw [if_pos h]
    generalize pick ((rows.getD 0 []).getD 2 0) 24 = i at *
    unfold QM.step
    rw [if_pos rfl, if_neg (by simp [QM.zero]; omega), if_neg (by simp [QM.zero])]
    simp [QM.pub, QM.zero]
  | k + 1 => Int.le_trans (playN_first rows h k) (QM.step_nx _ _)
/-- what was published was seen -/
def PL.Seen (p : PL) : Prop := ∀ e ∈ p.es, e.check = 0 ∧ (e.kind = 1 → p.q.S e.prod.toNat e.id = true)
theorem QM.step_S (q : QM) (e : Ev) (i : Nat) (x : Int) (h : q.S i x = true) : (q.step e).1.S i x = true := by
  unfold QM.step
  split
  · split
    · exact h
    · split
      · exact h
      · simp only [QM.pub, setF]
        split
        · next hi => subst hi; simp [h]
        · exact h
  · split
    · unfold QM.recv
      split <;> exact h
    · split
      · split
        · split <;> exact h
        · exact h
      · exact h
theorem PL.Seen.next {p : PL} (h : p.Seen) (e : Ev) (he : e.check = 0) : (p.next e).Seen := by
  have hold : ∀ x ∈ p.es, x.check = 0 ∧ (x.kind = 1 → (p.q.step e).1.S x.prod.toNat x.id = true) := fun x hx => ⟨(h x hx).1, fun hk => QM.step_S _ _ _ _ ((h x hx).2 hk)⟩
  intro x hx
  unfold PL.next at hx ⊢
  dsimp only at hx ⊢
  by_cases hc : (p.q.step e).2.2 = true
  · rw [if_pos hc] at hx
    rcases List.mem_append.1 hx with hx | hx
    · exact hold x hx
    · simp at hx
      subst hx
      refine ⟨he, fun hk => ?_⟩
      revert hc
      unfold QM.step
      rw [if_pos hk]
      split
      · simp
      · split
        · next hs => simp
        · intro _
          simp [QM.pub, setF]
  · rw [if_neg hc] at hx
    exact hold x hx
theorem playN_seen (rows : List (List Int)) : ∀ k, (playN rows k).Seen
  | 0 => fun _ h => by cases h
  | k + 1 => (playN_seen rows k).next _ (evOf_chk _ _ _ _)

end Go.Proofs.Ytjgbkicnagcmdaa
