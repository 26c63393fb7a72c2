/- Three new blocks. No program in sight. -/
import Derived.Test.YtcbpgmpbjcknbaaPut
namespace Go.Proofs.Ytcbpgmpbjcknbaa
open Go.RowKit

theorem blk3 (w : World) (a b c : TypeId) (A B C : Array Value) :
    Blk (((w.alloc (.cells A a)).alloc (.cells B b)).alloc (.cells C c)) w.heap.size a A ∧
    Blk (((w.alloc (.cells A a)).alloc (.cells B b)).alloc (.cells C c)) (w.heap.size + 1) b B ∧
    Blk (((w.alloc (.cells A a)).alloc (.cells B b)).alloc (.cells C c)) (w.heap.size + 1 + 1) c C ∧
    Below w.heap.size w (((w.alloc (.cells A a)).alloc (.cells B b)).alloc (.cells C c)) := by
  have h2 := Blk.new (w.alloc (.cells A a)) b B
  have h3 := Blk.new ((w.alloc (.cells A a)).alloc (.cells B b)) c C
  simp only [World.size_alloc] at h2 h3
  exact ⟨((Blk.new w a A).alloc _).alloc _, h2.alloc _, h3, (((Below.refl _ _).alloc (Nat.le_refl _) _).alloc (by simp) _).alloc (by simp; omega) _⟩

end Go.Proofs.Ytcbpgmpbjcknbaa
