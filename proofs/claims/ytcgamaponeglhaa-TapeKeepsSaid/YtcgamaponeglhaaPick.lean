/- 'pack.Number': what each call gives. -/
import Derived.Test.YtcgamaponeglhaaChecked
import Derived.Test.YtcgamaponeglhaaBytes
import Derived.Test.YtcgamaponeglhaaMem
import Derived.Lib.Hide
namespace Go.Proofs.Ytcgamaponeglhaa
open Go.RowKit

set_option maxHeartbeats 400000 in
theorem number_yes (n : Int) (w : World) (h1 : 0 ≤ n) (h2 : n ≤ 2147483647) :
    Calls Try.prog 37 #[.int .i64 n] w fun e w' => ∃ g, e = .returned (.tuple #[.slice (some ⟨g, 0, none⟩) 4 4, .int .i64 0]) ∧
      w'.ownsRow w.heap.size 5 1 (.slice (some ⟨g, 0, none⟩) 4 4) 4 ((four n).map (Value.int .u8)) ∧ Below w.heap.size w w' := by
  go_enter Try.func37, Try.ntmps37
  go_wp2
  go_ret2
  exact ⟨_, rfl, new_row w 5 ((four n).map (Value.int .u8)) _ rfl (by simp [four, maxLen]), (Below.refl _ _).alloc (Nat.le_refl _) _⟩

set_option maxHeartbeats 400000 in
theorem number_no (n : Int) (w : World) (h : n < 0 ∨ 2147483647 < n) :
    Calls Try.prog 37 #[.int .i64 n] w fun e w' => e = .returned (.tuple #[.slice none 0 0, .int .i64 2]) ∧ w = w' := by
  rcases h with h | h
  · go_enter Try.func37, Try.ntmps37
    go_wp2
    go_ret2
    exact ⟨rfl, rfl⟩
  · have h' : 0 ≤ n := by omega
    go_enter Try.func37, Try.ntmps37
    go_wp2
    go_ret2
    exact ⟨rfl, rfl⟩

end Go.Proofs.Ytcgamaponeglhaa
