/- Berths: Go. -/
import Derived.Test.YtjgbkicnagcmdaaBerW
import Derived.Test.YtjgbkicnagcmdaaBMR
namespace Go.Proofs.Ytjgbkicnagcmdaa
open Go.RowKit

/-- a berth and a code are returned -/
def BPost (w0 : World) (I : List It) (r : BM × Int) (ed : Ending) (w' : World) : Prop :=
  ∃ A c, ed = .returned (.tuple #[.agg (bArr r.1 A r.1.es.length c), .int .i64 r.2]) ∧ r.1.es.length ≤ c ∧ St w0 w' (evIt A r.1.es :: I)
theorem BPost.zero {w0 w : World} {I : List It} (k : Int) (H : St w0 w I) : BPost w0 I (BM.zero, k) (.returned (.tuple #[.agg (bArr BM.zero none 0 0), .int .i64 k])) w :=
  ⟨none, 0, rfl, Nat.le_refl _, H.old (s := 6) (n := 0) (A := none) (xs := []) Reads.none_⟩
theorem node_any (n : Int) (w : World) : Calls Try.prog 34 #[.int .i64 n] w fun e w' => e = .returned (.bool (decide (0 ≤ n ∧ n < 5))) ∧ w' = w := by
  by_cases h0 : 0 ≤ n
  · by_cases h5 : n < 5
    · rw [decide_eq_true ⟨h0, h5⟩]
      exact node_ok n w h0 h5
    · rw [decide_eq_false (by omega)]
      go_enter Try.func34, Try.ntmps34
      go_wp2_with fail
      go_ret
      exact ⟨rfl, rfl⟩
  · rw [decide_eq_false (by omega)]
    go_enter Try.func34, Try.ntmps34
    go_wp2_with fail
    go_ret
    exact ⟨rfl, rfl⟩

end Go.Proofs.Ytjgbkicnagcmdaa
