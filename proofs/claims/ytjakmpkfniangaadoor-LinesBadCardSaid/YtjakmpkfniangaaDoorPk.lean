/- 'picked': what the call gives. -/
import Derived.Test.YtjakmpkfniangaaDoorChecked
import Derived.Test.YtjakmpkfniangaaDoorMem
import Derived.Lib.Hide
namespace Go.Proofs.YtjakmpkfniangaaDoor
open Go.RowKit

/-- what 'picked' answers -/
def pick (n m : Int) : Int := (if n < 0 then -(n + 1) else n) % m

theorem pick_lo (n m : Int) (hm : 0 < m) : 0 ≤ pick n m := by unfold pick; exact Int.emod_nonneg _ (by omega)
theorem pick_hi (n m : Int) (hm : 0 < m) : pick n m < m := by unfold pick; exact Int.emod_lt_of_pos _ hm

set_option maxHeartbeats 400000 in
theorem picked_any (n m : Int) (w : World) (h1 : -9223372036854775808 ≤ n) (h2 : n ≤ 9223372036854775807) (h3 : 1 ≤ m) (h4 : m ≤ 9223372036854775807) :
    Calls Tryd.prog 9 #[.int .i64 n, .int .i64 m] w fun e w' => e = .returned (.int .i64 (pick n m)) ∧ w = w' := by
  by_cases h : n < 0
  · go_enter Tryd.func9, Tryd.ntmps9
    go_wp2
    go_ret
    exact ⟨by rw [pick, if_pos h, ← Int.tmod_eq_emod_of_nonneg (by omega)]; simp, rfl⟩
  · go_enter Tryd.func9, Tryd.ntmps9
    go_wp2
    go_ret
    exact ⟨by rw [pick, if_neg (by omega)]; rfl, rfl⟩

theorem picked_still (n m r : Int) (w : World) (hr : pick n m = r) (h1 : -9223372036854775808 ≤ n) (h2 : n ≤ 9223372036854775807) (h3 : 1 ≤ m) (h4 : m ≤ 9223372036854775807) :
    Calls Tryd.prog 9 #[.int .i64 n, .int .i64 m] w fun e w' => e = .returned (.int .i64 r) ∧ w' = w := (picked_any n m w h1 h2 h3 h4).mono fun _ _ h => ⟨by rw [← hr]; exact h.1, h.2.symm⟩

end Go.Proofs.YtjakmpkfniangaaDoor
