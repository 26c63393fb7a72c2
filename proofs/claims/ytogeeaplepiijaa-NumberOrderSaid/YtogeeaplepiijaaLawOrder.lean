/- NumberOrder: the walk. -/
import Derived.Test.YtogeeaplepiijaaPick
import Derived.Test.YtogeeaplepiijaaView
namespace Go.Proofs.Ytogeeaplepiijaa
open Go.RowKit

set_option maxHeartbeats 400000 in
theorem numberOrder_walk (a b : Int) (w : World) (h0 : Is64 a) (h1 : Is64 b) :
    Calls Try.prog 3 #[.int .i64 a, .int .i64 b] w fun e w' => e = .returned (.bool true) ∧ Below w.heap.size w w' := by
  obtain ⟨ha1, ha2⟩ := h0
  obtain ⟨hb1, hb2⟩ := h1
  have px := pick_lo a 2147483648 (by omega)
  have px' := pick_hi a 2147483648 (by omega)
  have py := pick_lo b 2147483648 (by omega)
  have py' := pick_hi b 2147483648 (by omega)
  go_enter Try.func3, Try.ntmps3
  go_wp2_with fail
  refine (picked_any _ _ _ (by omega) (by omega) (by omega) (by omega)).mono ?_
  rintro e w1 ⟨rfl, rfl⟩
  go_wp2_with fail
  refine (picked_any _ _ _ (by omega) (by omega) (by omega) (by omega)).mono ?_
  rintro e w1 ⟨rfl, rfl⟩
  generalize pick a 2147483648 = x at *
  generalize pick b 2147483648 = y at *
  go_wp2_with fail
  refine (number_yes _ _ (by omega) (by omega)).mono ?_
  rintro e w1 ⟨g1, rfl, o1, b1⟩
  go_wp2_with fail
  refine (number_yes _ _ (by omega) (by omega)).mono ?_
  rintro e w2 ⟨g2, rfl, o2, b2⟩
  have k1 := conv_reads ((Reads.of_own o1).below b2) 23 5 9 Try.underlying23 Try.underlying5 Try.underlying9 4
  have k2 := conv_reads (Reads.of_own o2) 23 5 9 Try.underlying23 Try.underlying5 Try.underlying9 4
  have h := four_less x y px px' py py'
  have hb : Below w.heap.size w w2 := b1.trans (b2.mono b1.size)
  clear o1 o2 b1 b2
  go_wp2
  go_ret
  exact ⟨rfl, hb⟩

end Go.Proofs.Ytogeeaplepiijaa
