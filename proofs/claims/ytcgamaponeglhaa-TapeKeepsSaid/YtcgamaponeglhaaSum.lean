/- 'tape.Sum': what it gives. -/
import Derived.Test.YtcgamaponeglhaaBytes
import Derived.Test.YtcgamaponeglhaaMem
import Derived.Test.YtcgamaponeglhaaChecked
namespace Go.Proofs.Ytcgamaponeglhaa
open Go.RowKit

set_option maxHeartbeats 400000 in
theorem sum_any (A : Option Addr) (n c B : Nat) (zs : List Int) (w : World) (h : Reads w B 1 A n (zs.map (Value.int .u8))) (hz : ∀ z ∈ zs, 0 ≤ z ∧ z ≤ 255) (hn : n ≤ 140737488351232) :
    Calls Try.prog 39 #[.slice A n c] w fun e w' => e = .returned (.int .i64 (sumOf zs)) ∧ w = w' := by
  have hl : zs.length = n := by simpa using h.1
  go_enter Try.func39, Try.ntmps39
  go_wp2
  go_loop [3, 4, 9] (fun a b i => ∃ k : Nat, k ≤ n ∧ i = .int .i64 k ∧ a = .int .i64 (sumAB (zs.take k)).1 ∧ b = .int .i64 (sumAB (zs.take k)).2) (fun _ _ i => n - (intOf i).toNat)
  case atStart => exact ⟨0, Nat.zero_le _, rfl, rfl, rfl⟩
  case round =>
    obtain ⟨k, hk, rfl, rfl, rfl⟩ := hrel
    have hbd := sumAB_bd (zs.take k)
    by_cases hlt : k < n
    · obtain ⟨b, off, rfl, _, hc⟩ := h.plain (by omega) (by omega)
      have hcx : w.cell? ⟨b, off + k, none⟩ = some (.int .u8 (zs.getD k 0)) := hc k _ (by
        rw [List.getElem?_map, List.getElem?_eq_getElem (show k < zs.length by omega)]; simp [List.getD, List.getElem?_eq_getElem (show k < zs.length by omega)])
      have hzk : 0 ≤ zs.getD k 0 ∧ zs.getD k 0 ≤ 255 := hz _ (by rw [List.getD, List.getElem?_eq_getElem (show k < zs.length by omega)]; simp)
      have HS := Lib.hid (sumAB_snoc (zs.take k) (zs.getD k 0))
      have HT := Lib.hid (take_snoc zs k (by omega))
      clear h hc hz
      generalize zs.getD k 0 = z at *
      generalize sumAB (zs.take k) = ab at *
      obtain ⟨a0, b0⟩ := ab
      go_wp2
      go_round
      case rel => exact ⟨k + 1, by omega, by go_num, by rw [HT.out, HS.out]; rfl, by rw [HT.out, HS.out]; rfl⟩
      case measure => simp [intOf]; omega
    · have hk' : k = n := by omega
      have ht : zs.take k = zs := List.take_of_length_le (by omega)
      rw [ht] at hbd ⊢
      have ho := Lib.hid (or_shift (sumAB zs).2 (sumAB zs).1 (by omega) (by omega) (by omega) (by omega))
      clear ht h hz
      go_wp2
      go_ret
      exact ⟨by unfold sumOf; rw [← ho.out]; rfl, rfl⟩

end Go.Proofs.Ytcgamaponeglhaa
