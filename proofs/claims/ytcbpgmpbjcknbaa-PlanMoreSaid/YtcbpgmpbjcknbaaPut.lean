/- A struct of several cells that is stored over another one: the nested stores under one name. No program in sight. -/
import Derived.Test.YtcbpgmpbjcknbaaMem
namespace Go.Proofs.Ytcbpgmpbjcknbaa
open Go.RowKit

theorem below_drewN {B : Nat} {a w : World} (h : Below B a w) (n : Nat) : Below B a (w.drewN n) := ⟨h.os, h.tape, h.output, h.size, h.block⟩

/-- new blocks, one behind the other -/
theorem blk4 (w : World) (a b c d : TypeId) (A B C D : Array Value) :
    Blk ((((w.alloc (.cells A a)).alloc (.cells B b)).alloc (.cells C c)).alloc (.cells D d)) w.heap.size a A ∧
    Blk ((((w.alloc (.cells A a)).alloc (.cells B b)).alloc (.cells C c)).alloc (.cells D d)) (w.heap.size + 1) b B ∧
    Blk ((((w.alloc (.cells A a)).alloc (.cells B b)).alloc (.cells C c)).alloc (.cells D d)) (w.heap.size + 1 + 1) c C ∧
    Blk ((((w.alloc (.cells A a)).alloc (.cells B b)).alloc (.cells C c)).alloc (.cells D d)) (w.heap.size + 1 + 1 + 1) d D ∧
    Below w.heap.size w ((((w.alloc (.cells A a)).alloc (.cells B b)).alloc (.cells C c)).alloc (.cells D d)) := by
  have h2 := Blk.new (w.alloc (.cells A a)) b B
  have h3 := Blk.new ((w.alloc (.cells A a)).alloc (.cells B b)) c C
  have h4 := Blk.new (((w.alloc (.cells A a)).alloc (.cells B b)).alloc (.cells C c)) d D
  simp only [World.size_alloc] at h2 h3 h4
  exact ⟨(((Blk.new w a A).alloc _).alloc _).alloc _, (h2.alloc _).alloc _, h3.alloc _, h4, ((((Below.refl _ _).alloc (Nat.le_refl _) _).alloc (by simp) _).alloc (by simp; omega) _).alloc (by simp; omega) _⟩

/-- the cells vs, stored into block g from place k on -/
def putFrom (w : World) (g : Nat) : Nat → List Value → World
  | _, [] => w
  | k, v :: vs => putFrom (w.setCell ⟨g, k, none⟩ v) g (k + 1) vs

theorem putFrom_below {B : Nat} {a : World} {g : Nat} (hg : B ≤ g) : ∀ (vs : List Value) (k : Nat) (w : World), Below B a w → Below B a (putFrom w g k vs)
  | [], _, _, h => h
  | _ :: vs, k, _, h => putFrom_below hg vs (k + 1) _ (h.setCell (p := ⟨g, k, none⟩) hg _)
theorem putFrom_far {g g' : Nat} {t : TypeId} {cs : Array Value} (hg : g' ≠ g) : ∀ (vs : List Value) (k : Nat) (w : World), Blk w g' t cs → Blk (putFrom w g k vs) g' t cs
  | [], _, _, h => h
  | _ :: vs, k, _, h => putFrom_far hg vs (k + 1) _ (h.far (p := ⟨g, k, none⟩) hg _)
theorem putFrom_own {base : Nat} {e : TypeId} {size : Nat} {u : Value} {n : Nat} {xs : List Value} {g : Nat} (hg : u.ownBlock ≠ some g) : ∀ (vs : List Value) (k : Nat) (w : World), w.ownsRow base e size u n xs → (putFrom w g k vs).ownsRow base e size u n xs
  | [], _, _, h => h
  | _ :: vs, k, _, h => putFrom_own hg vs (k + 1) _ (ownsRow_setCell_other (a := ⟨g, k, none⟩) h hg _)
theorem putFrom_reads {B size n : Nat} {A : Option Addr} {xs : List Value} {g : Nat} (hg : B ≤ g) : ∀ (vs : List Value) (k : Nat) (w : World), Reads w B size A n xs → Reads (putFrom w g k vs) B size A n xs
  | [], _, _, h => h
  | _ :: vs, k, _, h => putFrom_reads hg vs (k + 1) _ (h.setCell (p := ⟨g, k, none⟩) hg _)
theorem putFrom_size {g : Nat} : ∀ (vs : List Value) (k : Nat) (w : World), (putFrom w g k vs).heap.size = w.heap.size
  | [], _, _ => rfl
  | _ :: vs, k, w => (putFrom_size vs (k + 1) _).trans (by simp [World.setCell])
theorem putFrom_blk0 {g : Nat} {t : TypeId} : ∀ (vs pre suf : List Value) (w : World), suf.length = vs.length → Blk w g t (pre ++ suf).toArray → Blk (putFrom w g pre.length vs) g t (pre ++ vs).toArray
  | [], pre, suf, w, hl, h => by
    obtain rfl : suf = [] := List.eq_nil_of_length_eq_zero (by simpa using hl)
    exact h
  | v :: vs, pre, [], w, hl, h => by simp at hl
  | v :: vs, pre, s :: suf, w, hl, h => by
    have h1 : Blk (w.setCell ⟨g, pre.length, none⟩ v) g t ((pre ++ [v]) ++ suf).toArray := by
      have := h.set_ pre.length v
      have e : (pre ++ s :: suf).toArray.setIfInBounds pre.length v = ((pre ++ [v]) ++ suf).toArray := by
        simp
      rw [e] at this
      exact this
    have h2 := putFrom_blk0 vs (pre ++ [v]) suf _ (by simpa using hl) h1
    simp only [List.length_append, List.length_cons, List.length_nil, List.append_assoc, List.singleton_append] at h2
    exact h2
theorem putFrom_blk {w : World} {g : Nat} {t : TypeId} {cs : Array Value} (h : Blk w g t cs) (vs : List Value) (hl : cs.size = vs.length) : Blk (putFrom w g 0 vs) g t vs.toArray := by
  obtain ⟨l⟩ := cs
  simpa using putFrom_blk0 vs [] l w (by simpa using hl) (by simpa using h)

theorem put2_eq (w : World) (g : Nat) (a b : Value) : (w.setCell ⟨g, 0, none⟩ a).setCell ⟨g, 1, none⟩ b = putFrom w g 0 [a, b] := rfl
theorem put8_eq (w : World) (g : Nat) (a b c d e f h i : Value) :
    (((((((w.setCell ⟨g, 0, none⟩ a).setCell ⟨g, 1, none⟩ b).setCell ⟨g, 2, none⟩ c).setCell ⟨g, 3, none⟩ d).setCell ⟨g, 4, none⟩ e).setCell ⟨g, 5, none⟩ f).setCell ⟨g, 6, none⟩ h).setCell ⟨g, 7, none⟩ i = putFrom w g 0 [a, b, c, d, e, f, h, i] := rfl
theorem put10_eq (w : World) (g : Nat) (a b c d e f h i j k : Value) :
    (((((((((w.setCell ⟨g, 0, none⟩ a).setCell ⟨g, 1, none⟩ b).setCell ⟨g, 2, none⟩ c).setCell ⟨g, 3, none⟩ d).setCell ⟨g, 4, none⟩ e).setCell ⟨g, 5, none⟩ f).setCell ⟨g, 6, none⟩ h).setCell ⟨g, 7, none⟩ i).setCell ⟨g, 8, none⟩ j).setCell ⟨g, 9, none⟩ k = putFrom w g 0 [a, b, c, d, e, f, h, i, j, k] := rfl

end Go.Proofs.Ytcbpgmpbjcknbaa
