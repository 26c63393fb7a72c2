/- 'pack.Take': what it gives. -/
import Derived.Test.YtcgamaponeglhaaBytes
import Derived.Test.YtcgamaponeglhaaMem
import Derived.Test.YtcgamaponeglhaaChecked
namespace Go.Proofs.Ytcgamaponeglhaa
open Go.RowKit

set_option maxHeartbeats 400000 in
theorem take_short (A : Option Addr) (n c : Nat) (w : World) (hn : n < 4) :
    Calls Try.prog 15 #[.slice A n c] w fun e w' => e = .returned (.tuple #[.int .i64 0, .int .i64 4]) ∧ w = w' := by
  have hI : (n : Int) < 4 := by omega
  go_enter Try.func15, Try.ntmps15
  go_wp2
  go_ret2
  exact ⟨rfl, rfl⟩

/-- what Take answers to four bytes -/
def TakePost (v : Int) (w : World) (e : Ending) (w' : World) : Prop :=
  e = .returned (.tuple #[.int .i64 (if v ≤ 2147483647 then v else 0), .int .i64 (if v ≤ 2147483647 then 0 else 2)]) ∧ w = w'

set_option maxHeartbeats 800000 in
theorem take_four (A : Option Addr) (n c B : Nat) (zs : List Int) (w : World) (h : Reads w B 1 A n (zs.map (Value.int .u8))) (hn : 4 ≤ n) (hc : n ≤ c) (hz : ∀ z ∈ zs, 0 ≤ z ∧ z ≤ 255) :
    Calls Try.prog 15 #[.slice A n c] w (TakePost (valOf (zs.take 4)) w) := by
  have hl : zs.length = n := by simpa using h.1
  have hI : ¬ (n : Int) < 4 := by omega
  have hcI : (4 : Int) ≤ (c : Int) := by omega
  obtain ⟨b, off, rfl, _, hcell⟩ := h.plain (by omega) (by omega)
  have hat : ∀ k, k < 4 → w.cell? ⟨b, off + k, none⟩ = some (.int .u8 (zs.getD k 0)) := fun k hk => hcell k _ (by
    rw [List.getElem?_map, List.getElem?_eq_getElem (show k < zs.length by omega)]; simp [List.getD, List.getElem?_eq_getElem (show k < zs.length by omega)])
  have hzk : ∀ k, k < 4 → 0 ≤ zs.getD k 0 ∧ zs.getD k 0 ≤ 255 := fun k hk => hz _ (by rw [List.getD, List.getElem?_eq_getElem (show k < zs.length by omega)]; simp)
  have hbd : ∀ k, k ≤ 4 → 0 ≤ valOf (zs.take k) ∧ valOf (zs.take k) < 4294967296 := fun k hk => valOf_bd 4 _ (by simp; omega) (fun z h => hz z (List.mem_of_mem_take h))
  clear h hcell
  go_enter Try.func15, Try.ntmps15
  go_wp2
  go_loop [4, 13] (fun a i => ∃ k : Nat, k ≤ 4 ∧ i = .int .i64 k ∧ a = .int .i64 (valOf (zs.take k))) (fun _ i => 4 - (intOf i).toNat)
  case atStart => exact ⟨0, Nat.zero_le _, rfl, rfl⟩
  case round =>
    obtain ⟨k, hk, rfl, rfl⟩ := hrel
    have hb := hbd k hk
    by_cases hlt : k < 4
    · have hcx := hat k hlt
      have hzx := hzk k hlt
      have HT := Lib.hid (take_snoc zs k (by omega))
      have HV := Lib.hid (valOf_snoc (zs.take k) (zs.getD k 0))
      have hb2 := hbd (k + 1) (by omega)
      rw [HT.out, HV.out] at hb2
      clear hat hzk hz hbd
      generalize zs.getD k 0 = z at *
      generalize valOf (zs.take k) = v at *
      have HO := Lib.hid (or_shift8 v z (by omega) (by omega) (by omega) (by omega))
      go_wp2
      go_round
      case rel => exact ⟨k + 1, by omega, by go_num, by rw [HT.out, HV.out, ← HO.out]⟩
      case measure => simp [intOf]; omega
    · obtain rfl : k = 4 := by omega
      clear hat hzk hz hbd
      generalize valOf (zs.take 4) = v at *
      by_cases hv : v ≤ 2147483647
      · go_wp2
        go_ret2
        exact ⟨by rw [if_pos hv, if_pos hv]; rfl, rfl⟩
      · go_wp2
        go_ret2
        exact ⟨by rw [if_neg (by omega), if_neg (by omega)]; rfl, rfl⟩

end Go.Proofs.Ytcgamaponeglhaa
