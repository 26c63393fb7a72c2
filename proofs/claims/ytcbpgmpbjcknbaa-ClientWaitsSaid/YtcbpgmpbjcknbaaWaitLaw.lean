/- ClientWaits: the plain facts of what waits. -/
import Derived.Test.YtcbpgmpbjcknbaaCliFull
import Derived.Test.YtcbpgmpbjcknbaaSent
namespace Go.Proofs.Ytcbpgmpbjcknbaa
open Go.RowKit

def sentW (g : Nat → Int) (k : Nat) : List (Int × Int) := (List.range k).map fun (j : Nat) => ((j : Int), g j)
theorem sentW_len (g : Nat → Int) (k : Nat) : (sentW g k).length = k := by simp [sentW]
theorem sentW_get (g : Nat → Int) (k j : Nat) (h : j < k) : (sentW g k).getD j (0, 0) = ((j : Int), g j) := by
  simp [sentW, List.getD, List.getElem?_map, List.getElem?_range h]
theorem sentW_snoc (g : Nat → Int) (k : Nat) : sentW g k ++ [((k : Int), g k)] = sentW g (k + 1) := by
  simp [sentW, List.range_succ]
theorem clok_sent (g : Nat → Int) (hg : ∀ j, 0 ≤ g j ∧ g j < 1000) (p : Int) (k : Nat) (h0 : 0 ≤ p) (h1 : p ≤ 3) (hk : k ≤ 8) : ClOk p k (sentW g k) (fun _ => -1) := by
  refine ⟨h0, h1, by omega, by omega, fun j hj => ?_, fun j hj => by omega⟩
  rw [sentW_len] at hj
  have h := hg j
  rw [sentW_get g k j hj]
  refine ⟨by simp, by simp; exact hj, by simp; omega, by simp; omega, by simp; omega, ?_⟩
  unfold lastOf
  split
  · simp; omega
  · rw [sentW_get g k (j - 1) (by omega)]
    simp
    omega
theorem del_get (ws : List (Int × Int)) (k t : Nat) (hk : k < ws.length) : (ws.take k ++ ws.drop (k + 1)).getD t (0, 0) = if t < k then ws.getD t (0, 0) else ws.getD (t + 1) (0, 0) := by
  simp only [List.getD]
  split
  · rw [List.getElem?_append_left (by simp; omega), List.getElem?_take, if_pos (by assumption)]
  · rw [List.getElem?_append_right (by simp; omega), List.getElem?_drop]
    congr 2
    rw [List.length_take]
    omega
theorem clok_del {p nx : Int} {ws : List (Int × Int)} {f : Nat → Int} (h : ClOk p nx ws f) (k : Nat) (hk : k < ws.length) : ClOk p nx (ws.take k ++ ws.drop (k + 1)) f := by
  refine ⟨h.p0, h.p3, h.n0, h.n1, fun j hj => ?_, h.wh⟩
  have hj' : j < ws.length - 1 := by simp at hj; omega
  rw [del_get ws k j hk]
  by_cases hjk : j < k
  · rw [if_pos hjk]
    obtain ⟨a, b, c, d, e, g⟩ := h.ids j (by omega)
    refine ⟨a, b, c, d, e, ?_⟩
    unfold lastOf at g ⊢
    split
    · rw [if_pos (by assumption)] at g; exact g
    · rw [if_neg (by assumption)] at g
      rw [del_get ws k (j - 1) hk, if_pos (by omega)]
      exact g
  · rw [if_neg hjk]
    obtain ⟨a, b, c, d, e, g⟩ := h.ids (j + 1) (by omega)
    refine ⟨a, b, c, d, e, ?_⟩
    obtain ⟨a', _, _, _, _, g'⟩ := h.ids j (by omega)
    have e1 : lastOf ws (j + 1) = (ws.getD j (0, 0)).1 := by simp [lastOf]
    unfold lastOf
    split
    · omega
    · rw [del_get ws k (j - 1) hk]
      split
      · rename_i h1 h2
        unfold lastOf at g'
        rw [if_neg h1] at g'
        omega
      · rename_i h1 h2
        rw [show j - 1 + 1 = j by omega]
        omega
theorem del_no (g : Nat → Int) (n k t : Nat) (hk : k < n) (ht : t < n - 1) : (((sentW g n).take k ++ (sentW g n).drop (k + 1)).getD t (0, 0)).1 ≠ (k : Int) := by
  rw [del_get _ k t (by rw [sentW_len]; exact hk)]
  split
  · rw [sentW_get g n t (by omega)]
    simp
    omega
  · rw [sentW_get g n (t + 1) (by omega)]
    simp
    omega
theorem clok_at0 (p nx : Int) (h0 : 0 ≤ p) (h1 : p ≤ 3) (h2 : 0 ≤ nx) (h3 : nx ≤ 1073741824) : ClOk p nx [] (fun _ => -1) := ⟨h0, h1, h2, h3, fun j hj => absurd hj (by simp), fun j hj => by omega⟩
theorem Fresh.mono {a b : Nat} {A : Option Addr} (h : Fresh b A) (hab : a ≤ b) : Fresh a A := fun ad e => Nat.le_trans hab (h ad e)

end Go.Proofs.Ytcbpgmpbjcknbaa
