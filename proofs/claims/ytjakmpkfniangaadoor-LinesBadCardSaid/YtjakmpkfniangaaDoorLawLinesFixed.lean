/- LinesFixed: what is read is shown as it was read; the walk. -/
import Derived.Test.YtjakmpkfniangaaDoorReadL
namespace Go.Proofs.YtjakmpkfniangaaDoor
open Go.RowKit

set_option linter.unusedVariables false
open Go.Lib
theorem cutLn_join (s : ByteArray) : (cutLn s).1 ++ (cutLn s).2 = s := by
  unfold cutLn
  have h1 := indexByte_lt s.data.toList 10
  have h2 : s.data.toList.length = s.size := Array.length_toList
  split
  · exact ByteArray.append_empty
  · show s.extract 0 ((indexByte s.data.toList 10).toNat + 1) ++ s.extract ((indexByte s.data.toList 10).toNat + 1) s.size = s
    rw [ByteArray.extract_append_extract, Nat.min_eq_left (Nat.zero_le _), Nat.max_eq_right (by omega), ByteArray.extract_zero_size]
/-- the lines of acts, one behind the other -/
def linesR (al : List (List Int)) : ByteArray := al.foldl (fun acc a => acc ++ lineR a) ⟨#[]⟩
theorem foldl_lines (al : List (List Int)) : ∀ acc : ByteArray, al.foldl (fun acc a => acc ++ lineR a) acc = acc ++ linesR al := by
  unfold linesR
  induction al with
  | nil => exact fun acc => ByteArray.append_empty.symm
  | cons a al ih =>
    intro acc
    rw [List.foldl_cons, ih, List.foldl_cons, ih (⟨#[]⟩ ++ lineR a)]
    rw [show (⟨#[]⟩ : ByteArray) ++ lineR a = lineR a from ByteArray.empty_append, ByteArray.append_assoc]
theorem linesR_cons (a : List Int) (al : List (List Int)) : linesR (a :: al) = lineR a ++ linesR al := by
  show al.foldl _ (⟨#[]⟩ ++ lineR a) = _
  rw [foldl_lines, show (⟨#[]⟩ : ByteArray) ++ lineR a = lineR a from ByteArray.empty_append]
theorem readGo_back : ∀ (f : Nat) (s : ByteArray) (al : List (List Int)), s.size ≤ f →
    (∃ news, readGo f s al = (al ++ news, 0, 0) ∧ (∀ a ∈ news, checkR a = 0) ∧ linesR news = s) ∨ (∃ (i : Nat) (e : Int), readGo f s al = ([], (i : Int), e) ∧ e ≠ 0) := by
  intro f
  induction f with
  | zero =>
    intro s al hf
    refine .inl ⟨[], by rw [List.append_nil]; rfl, fun a h => (by cases h), ?_⟩
    have : s = ⟨#[]⟩ := by
      cases s with
      | mk d =>
        have h : d.size = 0 := by have : d.size = (ByteArray.mk d).size := rfl; omega
        rw [Array.eq_empty_of_size_eq_zero h]
    rw [this]; rfl
  | succ f ih =>
    intro s al hf
    by_cases h0 : s.size = 0
    · refine .inl ⟨[], by rw [List.append_nil, readGo, if_pos h0], fun a h => (by cases h), ?_⟩
      have : s = ⟨#[]⟩ := by
        cases s with
        | mk d =>
          have h : d.size = 0 := by have : d.size = (ByteArray.mk d).size := rfl; omega
          rw [Array.eq_empty_of_size_eq_zero h]
      rw [this]; rfl
    · have hz := cutLn_size s (by omega)
      rw [readGo, if_neg h0]
      by_cases hl : al.length = 100000
      · exact .inr ⟨_, 14, by rw [if_pos hl], by decide⟩
      · rw [if_neg hl]
        by_cases hc : checkR (actR (cutLn s).1) = 0 ∧ lineR (actR (cutLn s).1) = (cutLn s).1
        · rw [if_pos hc]
          rcases ih (cutLn s).2 (al ++ [actR (cutLn s).1]) (by omega) with ⟨news, h1, h2, h3⟩ | h
          · refine .inl ⟨actR (cutLn s).1 :: news, by rw [h1, List.append_assoc]; rfl, fun a ha => ?_, ?_⟩
            · rcases List.mem_cons.1 ha with rfl | ha
              · exact hc.1
              · exact h2 a ha
            · rw [linesR_cons, hc.2, h3, cutLn_join]
          · exact .inr h
        · exact .inr ⟨_, 3, by rw [if_neg hc], by decide⟩
theorem showGo_ok : ∀ (al : List (List Int)) (i : Int) (acc : ByteArray), (∀ a ∈ al, checkR a = 0) → showGo al i acc = (acc ++ linesR al, 0, 0)
  | [], i, acc, _ => by rw [showGo]; exact congrArg (fun x => (x, 0, 0)) ByteArray.append_empty.symm
  | a :: al, i, acc, h => by
    rw [showGo, if_pos (h a (List.mem_cons_self ..)), showGo_ok al _ _ (fun b hb => h b (List.mem_cons_of_mem _ hb)), linesR_cons, ByteArray.append_assoc]
theorem showR_ok (al : List (List Int)) (hl : al.length ≤ 100000) (h : ∀ a ∈ al, checkR a = 0) : showR al = (linesR al, 0, 0) := by
  rw [showR, if_neg (by omega), showGo_ok al 0 _ h]
  exact congrArg (fun x => (x, 0, 0)) ByteArray.empty_append
theorem read_fixed (s : ByteArray) : (∃ al, readR s = (al, 0, 0) ∧ showR al = (s, 0, 0)) ∨ (∃ (i : Nat) (e : Int), readR s = ([], (i : Int), e) ∧ e ≠ 0) := by
  have hl := (readR_acts s).2
  unfold readR at hl ⊢
  split
  · exact .inr ⟨0, 1, rfl, by decide⟩
  · next hs =>
    rw [if_neg hs] at hl
    rcases readGo_back s.size s [] (Nat.le_refl _) with ⟨news, h1, h2, h3⟩ | h
    · rw [List.nil_append] at h1
      rw [h1] at hl ⊢
      exact .inl ⟨news, rfl, by rw [showR_ok news hl h2, h3]⟩
    · exact .inr h
set_option maxRecDepth 100000 in
set_option maxHeartbeats 8000000 in
theorem linesFixed_walk (s : ByteArray) (w : World) (L : LibW w) :
    Calls Tryd.prog 3 #[.string s] w (fun e w' => e = .returned (.bool true) ∧ Below w.heap.size w w') := by
  have H := St.start w
  have CR := Lib.hid (read_st (w0 := w) (w := w) (I := []) L s H)
  have hac := readR_acts s
  rcases read_fixed s with ⟨al, hr, hs⟩ | ⟨i, e, hr, he⟩
  · rw [hr] at CR hac
    have hal := hac.1
    have CS := Lib.hid (fun W A c (hc : al.length ≤ c) (H : St w W [actsIt A al]) => show_st (w0 := w) (w := W) (I := [actsIt A al]) L A al c hc hal H)
    rw [hs] at CS
    clear hac hal hr hs
    go_enter Tryd.func3, Tryd.ntmps3
    go_upto_region 2 with (first | (go_at_call 6; (with_reducible refine CR.out.mono ?_); clear H; rintro ed wx ⟨A, c, rfl, hc, H⟩))
    have hb0 : (s.toList == s.toList) = true := by simp
    go_wp2_with (first | (go_at_call 7; (with_reducible refine (CS.out _ _ _ hc H).mono ?_); clear H; rintro ed wx ⟨rfl, H⟩))
    refine bodyPost_ret (v := .bool true) (by simp [results, Tryd.f3]) rfl ⟨rfl, H.bel⟩
  · rw [hr] at CR
    have he1 : (e == 0) = false := by simpa using he
    have hi0 : (0 : Int) ≤ (i : Int) := by omega
    clear hac hr
    go_enter Tryd.func3, Tryd.ntmps3
    go_wp2_with (first | (go_at_call 6; (with_reducible refine CR.out.mono ?_); clear H; rintro ed wx ⟨A, c, rfl, hc, H⟩))
    refine bodyPost_ret (v := .bool true) (by simp [results, Tryd.f3]) rfl ⟨rfl, H.bel⟩


end Go.Proofs.YtjakmpkfniangaaDoor
