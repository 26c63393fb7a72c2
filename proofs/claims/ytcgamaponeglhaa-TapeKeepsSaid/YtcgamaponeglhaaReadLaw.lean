/- Plain law: what 'Read' reads of bytes. -/
import Derived.Test.YtcgamaponeglhaaFirst
import Derived.Test.YtcgamaponeglhaaDecLaw
import Derived.Test.YtcgamaponeglhaaTaped
namespace Go.Proofs.Ytcgamaponeglhaa
open Go.RowKit

/-- the records that bytes begin with, and how many bytes they have -/
def readGo : Nat → List Int → List Rc × Nat
  | 0, _ => ([], 0)
  | f + 1, d => if (firstOf d).2 = 0 then ([], 0) else ((firstOf d).1 :: (readGo f (d.drop (firstOf d).2)).1, (firstOf d).2 + (readGo f (d.drop (firstOf d).2)).2)
def readOf (d : List Int) : List Rc × Nat := readGo d.length d

theorem firstOf_cases (d : List Int) : firstOf d = (Rc.zero, 0) ∨ ((firstOf d).2 = saidLen d + 4 ∧ saidLen d + 4 ≤ d.length ∧ 2 ≤ d.length ∧ valOf ((d.drop (saidLen d)).take 4) = sumOf (d.take (saidLen d)) ∧ (decode ((d.drop 2).take (saidLen d - 2))).1 = 0 ∧ (firstOf d).1 = (decode ((d.drop 2).take (saidLen d - 2))).2) := by
  by_cases h1 : d.length < 2
  · left; unfold firstOf; rw [if_pos h1]
  by_cases h2 : d.length < saidLen d + 4
  · left; unfold firstOf; rw [if_neg h1, if_pos h2]
  by_cases h3 : valOf ((d.drop (saidLen d)).take 4) ≠ sumOf (d.take (saidLen d))
  · left; unfold firstOf; rw [if_neg h1, if_neg h2, if_pos h3]
  by_cases h4 : (decode ((d.drop 2).take (saidLen d - 2))).1 ≠ 0
  · left; unfold firstOf; rw [if_neg h1, if_neg h2, if_neg h3, if_pos h4]
  · right
    have e : firstOf d = ((decode ((d.drop 2).take (saidLen d - 2))).2, saidLen d + 4) := by unfold firstOf; rw [if_neg h1, if_neg h2, if_neg h3, if_neg h4]
    rw [e]
    exact ⟨rfl, by omega, by omega, Classical.not_not.1 h3, Classical.not_not.1 h4, rfl⟩

theorem firstOf_le (d : List Int) : (firstOf d).2 ≤ d.length := by
  rcases firstOf_cases d with h | ⟨h1, h2, _⟩
  · rw [h]; exact Nat.zero_le _
  · omega

theorem readGo_le : ∀ (f : Nat) (d : List Int), (readGo f d).2 ≤ d.length
  | 0, _ => Nat.zero_le _
  | f + 1, d => by
    unfold readGo
    split
    · exact Nat.zero_le _
    · have h1 := readGo_le f (d.drop (firstOf d).2)
      have h2 := firstOf_le d
      rw [List.length_drop] at h1
      simp only
      omega

/-- more fuel changes nothing -/
theorem readGo_fuel : ∀ (f g : Nat) (d : List Int), d.length ≤ f → d.length ≤ g → readGo f d = readGo g d
  | 0, g, d, h, _ => by
    obtain rfl : d = [] := List.eq_nil_of_length_eq_zero (by omega)
    cases g with
    | zero => rfl
    | succ g => unfold readGo; rw [if_pos]; simp [firstOf]
  | f + 1, 0, d, _, h => by
    obtain rfl : d = [] := List.eq_nil_of_length_eq_zero (by omega)
    unfold readGo; rw [if_pos]; simp [firstOf]
  | f + 1, g + 1, d, h1, h2 => by
    unfold readGo
    split
    · rfl
    · rename_i h
      have h3 := firstOf_le d
      rw [readGo_fuel f g (d.drop (firstOf d).2) (by rw [List.length_drop]; omega) (by rw [List.length_drop]; omega)]

theorem readOf_none {d : List Int} (h : (firstOf d).2 = 0) : readOf d = ([], 0) := by
  unfold readOf
  cases hl : d.length with
  | zero => rfl
  | succ n => unfold readGo; rw [if_pos h]
theorem readOf_some {d : List Int} (h : (firstOf d).2 ≠ 0) : readOf d = ((firstOf d).1 :: (readOf (d.drop (firstOf d).2)).1, (firstOf d).2 + (readOf (d.drop (firstOf d).2)).2) := by
  have hle := firstOf_le d
  unfold readOf
  cases hl : d.length with
  | zero => omega
  | succ n =>
    rw [readGo, if_neg h, readGo_fuel n (d.drop (firstOf d).2).length (d.drop (firstOf d).2) (by rw [List.length_drop]; omega) (Nat.le_refl _)]

/-- the first record of a prefix that is long enough -/
theorem firstOf_take {d : List Int} {k : Nat} (h : (firstOf d).2 ≠ 0) (hk : (firstOf d).2 ≤ k) : firstOf (d.take k) = firstOf d := by
  rcases firstOf_cases d with h0 | ⟨h1, h2, h3, h4, h5, h6⟩
  · rw [h0] at h; exact absurd rfl h
  have hkk : saidLen d + 4 ≤ k := by omega
  have s2 : 2 ≤ saidLen d ∨ saidLen d < 2 := by omega
  have hk2 : 2 ≤ k := by
    rcases Nat.lt_or_ge k 2 with h' | h'
    · omega
    · exact h'
  have hs : saidLen (d.take k) = saidLen d := by
    unfold saidLen
    simp [List.getD, show 0 < k by omega, show 1 < k by omega]
  have hl : (d.take k).length = min k d.length := List.length_take
  have e1 : ((d.take k).drop (saidLen d)).take 4 = (d.drop (saidLen d)).take 4 := by
    rw [List.drop_take, List.take_take, Nat.min_eq_left (by omega)]
  have e2 : (d.take k).take (saidLen d) = d.take (saidLen d) := by rw [List.take_take, Nat.min_eq_left (by omega)]
  have e3 : ((d.take k).drop 2).take (saidLen d - 2) = (d.drop 2).take (saidLen d - 2) := by
    rw [List.drop_take, List.take_take, Nat.min_eq_left (by omega)]
  have e : firstOf d = ((decode ((d.drop 2).take (saidLen d - 2))).2, saidLen d + 4) := by
    unfold firstOf; rw [if_neg (by omega), if_neg (by omega), if_neg (by simp [h4]), if_neg (by simp [h5])]
  rw [e]
  unfold firstOf
  rw [hs, e1, e2, e3, if_neg (by omega), if_neg (by omega), if_neg (by simp [h4]), if_neg (by simp [h5])]

/-- what is read of the part that was read -/
theorem readOf_again : ∀ (n : Nat) (d : List Int), d.length ≤ n → readOf (d.take (readOf d).2) = readOf d
  | n, d, hn => by
    by_cases h : (firstOf d).2 = 0
    · rw [readOf_none h]
      exact readOf_none (by simp [firstOf])
    · have h3 := firstOf_le d
      have e := readOf_some h
      have hle : (firstOf d).2 ≤ (readOf d).2 := by rw [e]; exact Nat.le_add_right _ _
      have ht := firstOf_take h hle
      have h' : (firstOf (d.take (readOf d).2)).2 ≠ 0 := by rw [ht]; exact h
      match n, hn with
      | 0, hn => omega
      | n + 1, hn =>
        rw [readOf_some h', ht, e]
        have e2 : (d.take ((firstOf d).2 + (readOf (d.drop (firstOf d).2)).2)).drop (firstOf d).2 = (d.drop (firstOf d).2).take (readOf (d.drop (firstOf d).2)).2 := by
          rw [List.drop_take]; congr 1; omega
        simp only [e2]
        rw [readOf_again n (d.drop (firstOf d).2) (by rw [List.length_drop]; omega)]

theorem valOf_four_sum (n : Int) (t : List Int) : valOf ((four n ++ t).take 4) = n := by rw [four_take, valOf_four]

theorem saidLen_frame (p t : List Int) (hp : p.length ≤ 1000) : saidLen (frameOf p ++ t) = p.length + 2 := by
  unfold saidLen frameOf frameHead
  simp
  omega

/-- a frame at the front -/
theorem firstOf_frame (r : Rc) (hc : r.check = 0) (t : List Int) : firstOf (frameOf (recBytes r) ++ t) = (r, (recBytes r).length + 6) := by
  have hp := recBytes_le r
  have hs := saidLen_frame (recBytes r) t (by omega)
  have hl := frameOf_length (recBytes r)
  have hh := frameHead_length (recBytes r)
  have e1 : (frameOf (recBytes r) ++ t).take ((recBytes r).length + 2) = frameHead (recBytes r) := by
    unfold frameOf; rw [List.append_assoc, ← hh, List.take_left]
  have e2 : (frameOf (recBytes r) ++ t).drop ((recBytes r).length + 2) = four (sumOf (frameHead (recBytes r))) ++ t := by
    unfold frameOf; rw [List.append_assoc, ← hh, List.drop_left]
  have e3 : ((frameOf (recBytes r) ++ t).drop 2).take ((recBytes r).length + 2 - 2) = recBytes r := by
    unfold frameOf frameHead
    simp
  have hd := decode_enc r hc []
  rw [List.append_nil, if_pos rfl] at hd
  unfold firstOf
  rw [hs, e1, e2, e3, valOf_four_sum, hd, if_neg (by rw [List.length_append]; omega), if_neg (by rw [List.length_append]; omega), if_neg (by simp), if_neg (by simp)]

theorem readOf_frame (r : Rc) (hc : r.check = 0) (t : List Int) : readOf (frameOf (recBytes r) ++ t) = (r :: (readOf t).1, (recBytes r).length + 6 + (readOf t).2) := by
  have e := firstOf_frame r hc t
  rw [readOf_some (by rw [e]; simp), e]
  have : (frameOf (recBytes r) ++ t).drop ((recBytes r).length + 6) = t := by rw [← frameOf_length, List.drop_left]
  simp only [this]

theorem readOf_frames : ∀ (rs : List Rc) (_ : ∀ r ∈ rs, r.check = 0) (t : List Int), readOf (frames rs ++ t) = (rs ++ (readOf t).1, (frames rs).length + (readOf t).2)
  | [], _, t => by simp [frames]
  | r :: rs, hc, t => by
    have e : frames (r :: rs) ++ t = frameOf (recBytes r) ++ (frames rs ++ t) := by simp [frames]
    rw [e, readOf_frame r (hc r (by simp)), readOf_frames rs (fun x hx => hc x (by simp [hx])) t]
    have h := frameOf_length (recBytes r)
    simp only [frames, List.flatMap_cons, List.length_append, List.cons_append, Prod.mk.injEq, true_and]
    omega

/-- a torn frame is none -/
theorem firstOf_torn (r : Rc) (k : Nat) (hk : k < (frameOf (recBytes r)).length) : (firstOf ((frameOf (recBytes r)).take k)).2 = 0 := by
  have hp := recBytes_le r
  have hl := frameOf_length (recBytes r)
  have hlen : ((frameOf (recBytes r)).take k).length = k := by rw [List.length_take]; omega
  by_cases h : k < 2
  · unfold firstOf; rw [if_pos (by omega)]
  · have hs : saidLen ((frameOf (recBytes r)).take k) = (recBytes r).length + 2 := by
      have := saidLen_frame (recBytes r) [] (by omega)
      rw [List.append_nil] at this
      rw [← this]
      unfold saidLen
      simp [List.getD, show 0 < k by omega, show 1 < k by omega]
    unfold firstOf; rw [hs, if_neg (by omega), if_pos (by omega)]

/-- of a prefix of frames just the whole ones are read -/
theorem readOf_prefix : ∀ (rs : List Rc) (_ : ∀ r ∈ rs, r.check = 0) (k : Nat), k ≤ (frames rs).length →
    ∃ j, j ≤ rs.length ∧ readOf ((frames rs).take k) = (rs.take j, (frames (rs.take j)).length) ∧ (frames (rs.take j)).length ≤ k ∧ (j = rs.length ↔ k = (frames rs).length)
  | [], _, k, hk => ⟨0, Nat.le_refl _, by simp [frames, readOf, readGo], by simp [frames], by simp [frames] at hk ⊢; exact hk⟩
  | r :: rs, hc, k, hk => by
    have hl := frameOf_length (recBytes r)
    have e : frames (r :: rs) = frameOf (recBytes r) ++ frames rs := by simp [frames]
    rw [e] at hk ⊢
    rw [List.length_append] at hk ⊢
    by_cases h : k < (frameOf (recBytes r)).length
    · refine ⟨0, Nat.zero_le _, ?_, by simp [frames], by simp; omega⟩
      rw [List.take_append_of_le_length (by omega), readOf_none (firstOf_torn r k h)]
      simp [frames]
    · obtain ⟨j, hj, h1, h2, h3⟩ := readOf_prefix rs (fun x hx => hc x (by simp [hx])) (k - (frameOf (recBytes r)).length) (by omega)
      refine ⟨j + 1, by simp; omega, ?_, ?_, by simp; omega⟩
      · rw [List.take_append, List.take_of_length_le (by omega), readOf_frame r (hc r (by simp)), h1]
        simp only [List.take_succ_cons, frames, List.flatMap_cons, List.length_append, Prod.mk.injEq, true_and]
        omega
      · simp only [List.take_succ_cons, frames, List.flatMap_cons, List.length_append] at h2 ⊢
        omega

end Go.Proofs.Ytcgamaponeglhaa
