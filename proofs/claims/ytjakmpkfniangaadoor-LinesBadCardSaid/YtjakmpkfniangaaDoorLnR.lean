/- Lines, plain: lines one behind the other are read as acts; a line that is none is told by its place. -/
import Derived.Test.YtjakmpkfniangaaDoorLnQ
namespace Go.Proofs.YtjakmpkfniangaaDoor
open Go.RowKit
set_option linter.unusedVariables false
open Go.Lib

def Good (al : List (List Int)) : Prop := ∀ a ∈ al, a.length = 11 ∧ checkR a = 0
theorem size_pos_of {line rest : ByteArray} {p : List UInt8} (hl : line.data.toList = p ++ [10]) : 0 < (line ++ rest).size := by
  rw [ByteArray.size_append, Lib.size_eq line, hl, List.length_append, List.length_singleton]
  omega
theorem readGo_lines : ∀ (al : List (List Int)), Good al → ∀ (f : Nat) (rest : ByteArray) (acc : List (List Int)), (linesR al ++ rest).size ≤ f → acc.length + al.length ≤ 100000 →
    ∃ f', rest.size ≤ f' ∧ readGo f (linesR al ++ rest) acc = readGo f' rest (acc ++ al)
  | [], _, f, rest, acc, hf, _ => by
    have e : linesR [] ++ rest = rest := ByteArray.empty_append
    rw [e] at hf ⊢
    exact ⟨f, hf, by rw [List.append_nil]⟩
  | a :: al, h, f, rest, acc, hf, hl => by
    obtain ⟨ha, hc⟩ := h a (List.mem_cons_self ..)
    have hcut := cutLn_of (lineR a) (linesR al ++ rest) _ (lineR_list a) (body_clean hc)
    have hpos : 0 < (lineR a ++ (linesR al ++ rest)).size := size_pos_of (lineR_list a)
    rw [linesR_cons, ByteArray.append_assoc] at hf ⊢
    obtain ⟨f1, hf1, h1⟩ := readGo_step hf hpos acc
    rw [hcut] at h1 hf1
    rw [List.length_cons] at hl
    rw [if_neg (by omega), actR_back ha hc, if_pos ⟨hc, rfl⟩] at h1
    obtain ⟨f2, hf2, h2⟩ := readGo_lines al (fun x hx => h x (List.mem_cons_of_mem _ hx)) f1 rest (acc ++ [a]) hf1 (by rw [List.length_append, List.length_singleton]; omega)
    exact ⟨f2, hf2, by rw [h1, h2, List.append_assoc]; rfl⟩
theorem linesR_size : ∀ (al : List (List Int)), Acts al → (linesR al).size ≤ 118 * al.length
  | [], _ => Nat.le_refl _
  | a :: al, h => by
    have h1 := lineR_size a (h a (List.mem_cons_self ..)).1 (h a (List.mem_cons_self ..)).2
    have h2 := linesR_size al (fun x hx => h x (List.mem_cons_of_mem _ hx))
    rw [linesR_cons, ByteArray.size_append, List.length_cons]
    omega
/-- what was shown is read as it was -/
theorem read_back (al : List (List Int)) (hA : Acts al) (hg : Good al) (hl : al.length ≤ 1000) : readR (linesR al) = (al, 0, 0) := by
  have hz := linesR_size al hA
  unfold readR
  rw [if_neg (by omega)]
  have e : linesR al = linesR al ++ (⟨#[]⟩ : ByteArray) := ByteArray.append_empty.symm
  obtain ⟨f', _, h⟩ := readGo_lines al hg (linesR al).size ⟨#[]⟩ [] (by rw [← e]; exact Nat.le_refl _) (by simp; omega)
  rw [← e, List.nil_append, readGo_nil] at h
  exact h
/-- a line that is none is told by its place -/
theorem read_bad (al : List (List Int)) (hA : Acts al) (hg : Good al) (hl : al.length ≤ 1000) (w rest : ByteArray) (p : List UInt8) (hw : w.data.toList = p ++ [10]) (hp : (10 : UInt8) ∉ p) (hb : ¬ (checkR (actR w) = 0 ∧ lineR (actR w) = w)) (hz : (w ++ rest).size ≤ 1000000) :
    readR (linesR al ++ (w ++ rest)) = ([], (al.length : Int), 3) := by
  have h1 := linesR_size al hA
  unfold readR
  rw [if_neg (by rw [ByteArray.size_append]; omega)]
  obtain ⟨f1, hf1, h2⟩ := readGo_lines al hg _ (w ++ rest) [] (Nat.le_refl _) (by simp; omega)
  rw [h2, List.nil_append]
  obtain ⟨f2, hf2, h3⟩ := readGo_step hf1 (size_pos_of hw) al
  rw [cutLn_of w rest p hw hp] at h3
  rw [h3, if_neg (by omega), if_neg hb]
/-- the ten lines that are none -/
def badWords : List (List UInt8) := [[97, 108, 108, 32, 49], [115, 116, 101, 112], [115, 116, 101, 112, 32, 53], [109, 97, 107, 101, 32, 52, 32, 48], [], [112, 117, 98, 108, 105, 115, 104, 32, 48, 32, 48, 32, 48, 32, 48], [114, 101, 99, 101, 105, 118, 101, 32, 49], [99, 97, 114, 114, 121, 32, 48, 49], [99, 114, 97, 115, 104, 32, 49, 32, 49, 48, 48, 48, 48, 49], [65, 108, 108]]
theorem badWords_bad : ∀ p ∈ badWords, ¬ (checkR (actR ⟨(p ++ [10]).toArray⟩) = 0 ∧ lineR (actR ⟨(p ++ [10]).toArray⟩) = ⟨(p ++ [10]).toArray⟩) ∧ (10 : UInt8) ∉ p := by
  decide +kernel
end Go.Proofs.YtjakmpkfniangaaDoor
