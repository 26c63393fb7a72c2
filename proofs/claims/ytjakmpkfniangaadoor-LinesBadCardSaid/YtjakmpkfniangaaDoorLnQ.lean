/- Acts' lines, plain: what was shown is read as it was, act by act. -/
import Derived.Test.YtjakmpkfniangaaDoorLnP
namespace Go.Proofs.YtjakmpkfniangaaDoor
open Go.RowKit
set_option linter.unusedVariables false
open Go.Lib

theorem lineAcc_list (vs : List Int) (ss : List (Nat × Int)) : ∀ acc : ByteArray, (lineAcc vs acc ss).data.toList = joined 32 acc.data.toList (ss.map fun s => itoa (vs.getD s.1 0)) := by
  induction ss with
  | nil => exact fun acc => by simp [lineAcc, joined]
  | cons s ss ih =>
    intro acc
    show (lineAcc vs (acc ++ (⟨#[32]⟩ ++ ⟨(itoa (vs.getD s.1 0)).toArray⟩)) ss).data.toList = _
    rw [ih, ba_append, ba_append, List.map_cons, joined_cons]
    simp [joined]
/-- a form's word has neither a blank nor a line's end -/
theorem formR_clean (k e : Int) : (32 : UInt8) ∉ (formR k e).1.data.toList ∧ (10 : UInt8) ∉ (formR k e).1.data.toList := by
  have h : ((formR k e).1.data.toList.all fun b => decide (b ≠ 32 ∧ b ≠ 10)) = true := by
    unfold formR
    repeat (first | exact rfl | refine iteInd (P := fun r : ByteArray × List (Nat × Int) × Bool => (r.1.data.toList.all fun b => decide (b ≠ 32 ∧ b ≠ 10)) = true) _ (by decide) ?_)
  rw [List.all_eq_true] at h
  exact ⟨fun k => absurd rfl (of_decide_eq_true (h _ k)).1, fun k => absurd rfl (of_decide_eq_true (h _ k)).2⟩
/-- the numbers are in their bounds -/
theorem checkR_slots {vs : List Int} (h : checkR vs = 0) : (formR (vs.getD 0 0) (vs.getD 5 0)).2.2 = true ∧ ∀ s ∈ (formR (vs.getD 0 0) (vs.getD 5 0)).2.1, 0 ≤ vs.getD s.1 0 ∧ vs.getD s.1 0 ≤ s.2 := by
  unfold checkR at h
  split at h
  · cases h
  · next h1 =>
    split at h
    · cases h
    · next h2 =>
      refine ⟨by simpa using h1, fun s hs => ?_⟩
      have h3 : (slotBad vs s) = false := by
        cases hb : slotBad vs s with
        | false => rfl
        | true => exact absurd (List.any_eq_true.2 ⟨s, hs, hb⟩) h2
      simp only [slotBad, Bool.or_eq_false_iff, decide_eq_false_iff_not] at h3
      omega
theorem formR_most (k e : Int) : ∀ s ∈ (formR k e).2.1, s.2 ≤ 1073741824 := by
  have h : ((formR k e).2.1.all fun s => decide (s.2 ≤ 1073741824)) = true := by
    unfold formR
    repeat (first | exact rfl | refine iteInd (P := fun r : ByteArray × List (Nat × Int) × Bool => (r.2.1.all fun s => decide (s.2 ≤ 1073741824)) = true) _ rfl ?_)
  intro s hs
  simpa using List.all_eq_true.1 h s hs
/-- a line of an act that may be: its bytes ahead of the line's end -/
def bodyOf (vs : List Int) : List UInt8 := joined 32 (formR (vs.getD 0 0) (vs.getD 5 0)).1.data.toList ((formR (vs.getD 0 0) (vs.getD 5 0)).2.1.map fun s => itoa (vs.getD s.1 0))
theorem lineR_list (vs : List Int) : (lineR vs).data.toList = bodyOf vs ++ [10] := by
  unfold lineR
  rw [ba_append, lineAcc_list]
  rfl
theorem body_clean {vs : List Int} (h : checkR vs = 0) : (10 : UInt8) ∉ bodyOf vs := by
  obtain ⟨_, hs⟩ := checkR_slots h
  intro hm
  rcases List.mem_append.1 hm with hm | hm
  · exact (formR_clean _ _).2 hm
  · obtain ⟨q, hq, hx⟩ := List.mem_flatMap.1 hm
    obtain ⟨s, hs1, rfl⟩ := List.mem_map.1 hq
    rcases List.mem_cons.1 hx with h' | h'
    · cases h'
    · exact itoa_no _ (hs s hs1).1 10 (by decide) h'
theorem cutLn_of (line rest : ByteArray) (p : List UInt8) (hl : line.data.toList = p ++ [10]) (hp : (10 : UInt8) ∉ p) : cutLn (line ++ rest) = (line, rest) := by
  have hi : indexByte (line ++ rest).data.toList 10 = p.length := by
    rw [ba_append, hl, List.append_assoc]
    exact indexByte_at p 10 _ hp
  have hsz : line.size = p.length + 1 := by rw [Lib.size_eq, hl, List.length_append]; rfl
  unfold cutLn
  rw [hi, if_neg (by omega)]
  rw [show ((p.length : Nat) : Int).toNat + 1 = line.size by rw [Int.toNat_natCast, hsz]]
  have e1 : (line ++ rest).extract 0 line.size = line := ba_ext (by rw [extract_from_zero, ba_append, Lib.size_eq, List.take_left])
  have e2 : (line ++ rest).extract line.size (line ++ rest).size = rest := ba_ext (by rw [Lib.extract_to_end, ba_append, Lib.size_eq, List.drop_left])
  rw [e1, e2]
theorem actAcc_val (ws : List ByteArray) (vs : List Int) : ∀ (ss : List (Nat × Int)) (u : List Int) (i : Nat),
    (∀ j s, ss[j]? = some s → ∃ x, ws[i + 1 + j]? = some x ∧ atoiV x = vs.getD s.1 0) → actAcc ws u i ss = ss.foldl (fun u s => u.set s.1 (vs.getD s.1 0)) u
  | [], u, i, _ => rfl
  | s :: ss, u, i, h => by
    obtain ⟨x, hx, hv⟩ := h 0 s rfl
    have hlt : i + 1 < ws.length := by
      rcases Nat.lt_or_ge (i + 1) ws.length with h' | h'
      · exact h'
      · rw [Nat.add_zero, List.getElem?_eq_none h'] at hx; cases hx
    show actAcc ws (stepA ws u i s) (i + 1) ss = _
    rw [actAcc_val ws vs ss _ (i + 1) (fun j t ht => by
      have := h (j + 1) t (by rw [List.getElem?_cons_succ]; exact ht)
      rwa [show i + 1 + (j + 1) = i + 1 + 1 + j by omega] at this), List.foldl_cons]
    unfold stepA
    rw [if_pos hlt]
    rw [List.getD, show ws[i + 1]? = some x from hx]
    simp only [Option.getD_some]
    rw [hv]
/-- what is made of an act's line -/
theorem actR_line {vs : List Int} (h : checkR vs = 0) (hk : kindR (formR (vs.getD 0 0) (vs.getD 5 0)).1 = bareL (vs.getD 0 0) (if vs.getD 0 0 = 2 then vs.getD 5 0 else 0)) (hf : formR (vs.getD 0 0) (if vs.getD 0 0 = 2 then vs.getD 5 0 else 0) = formR (vs.getD 0 0) (vs.getD 5 0)) :
    actR (lineR vs) = (formR (vs.getD 0 0) (vs.getD 5 0)).2.1.foldl (fun u s => u.set s.1 (vs.getD s.1 0)) (bareL (vs.getD 0 0) (if vs.getD 0 0 = 2 then vs.getD 5 0 else 0)) := by
  obtain ⟨_, hs⟩ := checkR_slots h
  have hm := formR_most (vs.getD 0 0) (vs.getD 5 0)
  have ht : (trimR (lineR vs)).data.toList = bodyOf vs := by
    unfold trimR trimSuffix
    have h1 : hasSuffix (lineR vs).data.toList [10] = true := by
      rw [lineR_list]
      simp [hasSuffix]
    rw [if_pos h1, lineR_list]
    simp
  have hw := wordsR_joined (trimR (lineR vs)) _ _ ht (formR_clean _ _).1 (fun q hq => by
    obtain ⟨s, hs1, rfl⟩ := List.mem_map.1 hq
    exact itoa_no _ (hs s hs1).1 32 (by decide))
  unfold actR actW
  generalize wordsR (trimR (lineR vs)) = ws at hw ⊢
  cases ws with
  | nil => cases hw
  | cons w0 ws =>
    rw [List.map_cons] at hw
    obtain ⟨e1, e2⟩ := List.cons.inj hw
    have hw0 : w0 = (formR (vs.getD 0 0) (vs.getD 5 0)).1 := ba_ext e1
    rw [show (w0 :: ws).getD 0 ⟨#[]⟩ = w0 from rfl, hw0, hk]
    rw [show (bareL (vs.getD 0 0) (if vs.getD 0 0 = 2 then vs.getD 5 0 else 0)).getD 0 0 = vs.getD 0 0 from rfl, show (bareL (vs.getD 0 0) (if vs.getD 0 0 = 2 then vs.getD 5 0 else 0)).getD 5 0 = (if vs.getD 0 0 = 2 then vs.getD 5 0 else 0) from rfl, hf]
    refine actAcc_val _ vs _ _ 0 (fun j s hj => ?_)
    have hx : (ws.map (·.data.toList))[j]? = some (itoa (vs.getD s.1 0)) := by rw [e2, List.getElem?_map, hj]; rfl
    rw [List.getElem?_map] at hx
    cases hy : ws[j]? with
    | none => rw [hy] at hx; cases hx
    | some x =>
      rw [hy] at hx
      have hsj := List.mem_of_getElem? hj
      refine ⟨x, by rw [show 0 + 1 + j = j + 1 by omega, List.getElem?_cons_succ]; exact hy, atoiV_itoa _ (hs s hsj).1 ?_ x (Option.some.inj hx)⟩
      have := (hs s hsj).2
      have := hm s hsj
      omega
theorem kinds_words : ∀ p ∈ [((1 : Int), (0 : Int)), (10, 0), (3, 0), (9, 0), (8, 0), (4, 0), (5, 0), (6, 0), (7, 0), (2, 1), (2, 2), (2, 3)], kindR (formR p.1 p.2).1 = bareL p.1 p.2 := by
  decide +kernel
theorem two_ite {c d : Prop} [Decidable c] [Decidable d] (h : (if c then (2 : Int) else if d then 0 else 3) = 0) : d := by
  split at h
  · cases h
  · split at h
    · assumption
    · cases h
/-- an act that may be is read as it was shown -/
theorem actR_back {vs : List Int} (hl : vs.length = 11) (h : checkR vs = 0) : actR (lineR vs) = vs := by
  obtain ⟨x0, x1, x2, x3, x4, x5, x6, x7, x8, x9, x10, rfl⟩ := iCells_11 hl
  have h0 := h
  have hf := (checkR_slots h).1
  have hr := fun hk hf => actR_line h hk hf
  simp only [List.getD_cons_zero, List.getD_cons_succ] at hf hr
  have nc : ∀ k e e' : Int, k ≠ 2 → formR k e = formR k e' := fun k e e' hk => by
    unfold formR
    simp only [hk, false_and, if_false]
  unfold checkR at h0
  simp only [List.getD_cons_zero, List.getD_cons_succ] at h0
  have done : ∀ (k e : Int) (ss : List (Nat × Int)) (wd : ByteArray), x0 = k → (if x0 = 2 then x5 else 0) = e → formR k e = (wd, ss, true) → kindR (formR k e).1 = bareL k e → (ss.foldl (fun u s => u.set s.1 ([x0, x1, x2, x3, x4, x5, x6, x7, x8, x9, x10].getD s.1 0)) (bareL k e) = [x0, x1, x2, x3, x4, x5, x6, x7, x8, x9, x10]) → actR (lineR [x0, x1, x2, x3, x4, x5, x6, x7, x8, x9, x10]) = [x0, x1, x2, x3, x4, x5, x6, x7, x8, x9, x10] := by
    intro k e ss wd hk he hfm hkr hfold
    have hff : formR x0 (if x0 = 2 then x5 else 0) = formR x0 x5 := by
      by_cases h2 : x0 = 2
      · rw [if_pos h2]
      · exact nc _ _ _ h2
    have h5 : formR x0 x5 = (wd, ss, true) := by rw [← hff, he, hk, hfm]
    rw [hr (by rw [← hff, he, hk]; exact hkr) hff, h5, he, hk]
    subst hk
    exact hfold
  have hsome : (x0 = 1 ∨ x0 = 10 ∨ x0 = 3 ∨ x0 = 9 ∨ x0 = 8 ∨ x0 = 4 ∨ x0 = 5 ∨ x0 = 6 ∨ x0 = 7) ∨ (x0 = 2 ∧ (x5 = 1 ∨ x5 = 2 ∨ x5 = 3)) := by
    refine Classical.byContradiction fun hc => ?_
    have : formR x0 x5 = (⟨#[]⟩, [], false) := by
      unfold formR
      rw [if_neg (by omega), if_neg (by omega), if_neg (by omega), if_neg (by omega), if_neg (by omega), if_neg (by omega), if_neg (by omega), if_neg (by omega), if_neg (by omega), if_neg (by omega), if_neg (by omega), if_neg (by omega)]
    rw [this] at hf
    cases hf
  clear h0 hf hr
  rcases hsome with (h1 | h1 | h1 | h1 | h1 | h1 | h1 | h1 | h1) | ⟨h1, h2 | h2 | h2⟩
  · subst h1
    simp [checkR, formR, zeroed] at h
    replace h := two_ite h
    repeat (obtain ⟨hh, h⟩ := h; subst hh)
    subst h
    exact done 1 0 _ _ rfl rfl rfl (kinds_words (1, 0) (by decide)) rfl
  · subst h1
    simp [checkR, formR, zeroed] at h
    replace h := two_ite h
    repeat (obtain ⟨hh, h⟩ := h; subst hh)
    subst h
    exact done 10 0 _ _ rfl rfl rfl (kinds_words (10, 0) (by decide)) rfl
  · subst h1
    simp [checkR, formR, zeroed] at h
    replace h := two_ite h
    repeat (obtain ⟨hh, h⟩ := h; subst hh)
    subst h
    exact done 3 0 _ _ rfl rfl rfl (kinds_words (3, 0) (by decide)) rfl
  · subst h1
    simp [checkR, formR, zeroed] at h
    replace h := two_ite h
    repeat (obtain ⟨hh, h⟩ := h; subst hh)
    subst h
    exact done 9 0 _ _ rfl rfl rfl (kinds_words (9, 0) (by decide)) rfl
  · subst h1
    simp [checkR, formR, zeroed] at h
    replace h := two_ite h
    repeat (obtain ⟨hh, h⟩ := h; subst hh)
    subst h
    exact done 8 0 _ _ rfl rfl rfl (kinds_words (8, 0) (by decide)) rfl
  · subst h1
    simp [checkR, formR, zeroed] at h
    replace h := two_ite h
    repeat (obtain ⟨hh, h⟩ := h; subst hh)
    subst h
    exact done 4 0 _ _ rfl rfl rfl (kinds_words (4, 0) (by decide)) rfl
  · subst h1
    simp [checkR, formR, zeroed] at h
    replace h := two_ite h
    repeat (obtain ⟨hh, h⟩ := h; subst hh)
    subst h
    exact done 5 0 _ _ rfl rfl rfl (kinds_words (5, 0) (by decide)) rfl
  · subst h1
    simp [checkR, formR, zeroed] at h
    replace h := two_ite h
    repeat (obtain ⟨hh, h⟩ := h; subst hh)
    subst h
    exact done 6 0 _ _ rfl rfl rfl (kinds_words (6, 0) (by decide)) rfl
  · subst h1
    simp [checkR, formR, zeroed] at h
    skip
    repeat (obtain ⟨hh, h⟩ := h; subst hh)
    subst h
    exact done 7 0 _ _ rfl rfl rfl (kinds_words (7, 0) (by decide)) rfl
  · subst h1
    subst h2
    simp [checkR, formR, zeroed] at h
    replace h := two_ite h
    repeat (obtain ⟨hh, h⟩ := h; subst hh)
    subst h
    exact done 2 1 _ _ rfl rfl rfl (kinds_words (2, 1) (by decide)) rfl
  · subst h1
    subst h2
    simp [checkR, formR, zeroed] at h
    replace h := two_ite h
    repeat (obtain ⟨hh, h⟩ := h; subst hh)
    subst h
    exact done 2 2 _ _ rfl rfl rfl (kinds_words (2, 2) (by decide)) rfl
  · subst h1
    subst h2
    simp [checkR, formR, zeroed] at h
    replace h := two_ite h
    repeat (obtain ⟨hh, h⟩ := h; subst hh)
    subst h
    exact done 2 3 _ _ rfl rfl rfl (kinds_words (2, 3) (by decide)) rfl
end Go.Proofs.YtjakmpkfniangaaDoor
