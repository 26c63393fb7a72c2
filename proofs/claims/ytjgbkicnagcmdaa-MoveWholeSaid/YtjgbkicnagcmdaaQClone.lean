/- Queues: Clone of messages, of leases; the row that a desk is built of. -/
import Derived.Test.YtjgbkicnagcmdaaQDesk
namespace Go.Proofs.Ytjgbkicnagcmdaa
open Go.RowKit

theorem q_build (ep nx gv : Int) (vr vl : Value) (t : Nat → Int) (f : Nat → Nat → Bool) : Array.foldl (fun (cs : Array Value) (x : Value × Nat) => cs.setIfInBounds x.snd x.fst) #[.int .i64 0, .int .i64 0, .int .i64 0, .slice none 0 0, .slice none 0 0, .int .i64 0, .bool false, .bool false, .bool false, .bool false, .bool false, .bool false, .bool false, .bool false, .int .i64 0, .bool false, .bool false, .bool false, .bool false, .bool false, .bool false, .bool false, .bool false, .int .i64 0, .bool false, .bool false, .bool false, .bool false, .bool false, .bool false, .bool false, .bool false, .int .i64 0, .bool false, .bool false, .bool false, .bool false, .bool false, .bool false, .bool false, .bool false] (qCells ep nx gv vr vl t f).zipIdx 0 41 = qCells ep nx gv vr vl t f := by kernel_rfl

/-- a copy, in new memory -/
def ClonePostMsg (w : World) (n : Nat) (xs : List Value) (ed : Ending) (w' : World) : Prop := Gives w 91 2 n xs ed w'

set_option maxHeartbeats 400000 in
theorem clone_Msg (A : Option Addr) (n c B : Nat) (xs : List Value) (w : World) (h : Reads w B 2 A n xs) (hx : ∀ u ∈ xs, u.oneCell' = true) (hn : n ≤ c) (hc : n ≤ 100000) (hB : B ≤ w.heap.size) :
    Calls Try.prog 39 #[.slice A n c] w (ClonePostMsg w n xs) := by
  obtain ⟨i0, hi0, hz0, hz1, hz2⟩ := info_parts msg_info
  have hnil := fun (W : World) => Lib.run_eql_slice_nil (P := Try.prog) W 39 91 A n c 0 0 Try.underlying39
  rcases A with _ | ad
  · have h0 : n = 0 := by
      rcases Nat.eq_zero_or_pos n with h0 | h0
      · exact h0
      · obtain ⟨_, h1, _⟩ := h.2 h0; cases h1
    subst h0
    have hd : xs = [] := List.eq_nil_of_length_eq_zero (by simpa using h.1)
    subst hd
    have FIN := Lib.hid (show ClonePostMsg w 0 [] (.returned (.slice none 0 0)) w from ⟨_, rfl, World.ownsRow_nil _ _ _ _, Below.refl _ _⟩)
    generalize ClonePostMsg w 0 [] = POST at *
    clear h hx
    go_enter Try.func39, Try.ntmps39
    go_wp2
    exact FIN.out
  · have FIN : ∀ v w1 w2, Below w.heap.size w w1 → w2.ownsRow w.heap.size 91 2 v (0 + n) ([] ++ xs) → w1.grownBy w2 (some w.heap.size) → ClonePostMsg w n xs (.returned v) w2 := fun v w1 w2 hb ho hg => by
      rw [Nat.zero_add, List.nil_append] at ho
      exact ⟨v, rfl, ho, hb.grown hg hb.size (fun k hk => by cases hk; exact Nat.le_refl _)⟩
    have FH := Lib.hid FIN
    clear FIN
    generalize ClonePostMsg w n xs = POST at *
    have h1 := h.alloc hB (.cells #[] 91)
    have o0 : (w.alloc (.cells #[] 91)).ownsRow w.heap.size 91 2 (.slice (some ⟨w.heap.size, 0, none⟩) 0 0) 0 [] :=
      ⟨by simp, .inr ⟨w.heap.size, 0, #[], rfl, Nat.le_refl _, heap_alloc_new w _, Nat.le_refl _, by simp [maxLen], by simp, by simp⟩⟩
    have b0 := (Below.refl w.heap.size w).alloc (Nat.le_refl _) (.cells #[] 91)
    clear h
    go_enter Try.func39, Try.ntmps39
    go_wp2_with (at_builtin; refine wpList_append_any _ rfl (.tmp 5) (.tmp 6) _ rfl w.heap.size 91 i0 _ 2 16 Try.underlying39 hi0 hz0 hz1 hz2 rfl (by omega) (.slice (some ⟨w.heap.size, 0, none⟩) 0 0) 0 [] rfl o0 B (some ad) n c xs rfl h1 hx (by simp only [maxLen]; omega) (by omega) (by simp) ?_; intro v1 w1 o1 g1 at1)
    exact FH.out _ _ _ b0 o1 g1

/-- a copy, in new memory -/
def ClonePostLs (w : World) (n : Nat) (xs : List Value) (ed : Ending) (w' : World) : Prop := Gives w 94 4 n xs ed w'

set_option maxHeartbeats 400000 in
theorem clone_Ls (A : Option Addr) (n c B : Nat) (xs : List Value) (w : World) (h : Reads w B 4 A n xs) (hx : ∀ u ∈ xs, u.oneCell' = true) (hn : n ≤ c) (hc : n ≤ 100000) (hB : B ≤ w.heap.size) :
    Calls Try.prog 40 #[.slice A n c] w (ClonePostLs w n xs) := by
  obtain ⟨i0, hi0, hz0, hz1, hz2⟩ := info_parts ls_info
  have hnil := fun (W : World) => Lib.run_eql_slice_nil (P := Try.prog) W 40 94 A n c 0 0 Try.underlying40
  rcases A with _ | ad
  · have h0 : n = 0 := by
      rcases Nat.eq_zero_or_pos n with h0 | h0
      · exact h0
      · obtain ⟨_, h1, _⟩ := h.2 h0; cases h1
    subst h0
    have hd : xs = [] := List.eq_nil_of_length_eq_zero (by simpa using h.1)
    subst hd
    have FIN := Lib.hid (show ClonePostLs w 0 [] (.returned (.slice none 0 0)) w from ⟨_, rfl, World.ownsRow_nil _ _ _ _, Below.refl _ _⟩)
    generalize ClonePostLs w 0 [] = POST at *
    clear h hx
    go_enter Try.func40, Try.ntmps40
    go_wp2
    exact FIN.out
  · have FIN : ∀ v w1 w2, Below w.heap.size w w1 → w2.ownsRow w.heap.size 94 4 v (0 + n) ([] ++ xs) → w1.grownBy w2 (some w.heap.size) → ClonePostLs w n xs (.returned v) w2 := fun v w1 w2 hb ho hg => by
      rw [Nat.zero_add, List.nil_append] at ho
      exact ⟨v, rfl, ho, hb.grown hg hb.size (fun k hk => by cases hk; exact Nat.le_refl _)⟩
    have FH := Lib.hid FIN
    clear FIN
    generalize ClonePostLs w n xs = POST at *
    have h1 := h.alloc hB (.cells #[] 94)
    have o0 : (w.alloc (.cells #[] 94)).ownsRow w.heap.size 94 4 (.slice (some ⟨w.heap.size, 0, none⟩) 0 0) 0 [] :=
      ⟨by simp, .inr ⟨w.heap.size, 0, #[], rfl, Nat.le_refl _, heap_alloc_new w _, Nat.le_refl _, by simp [maxLen], by simp, by simp⟩⟩
    have b0 := (Below.refl w.heap.size w).alloc (Nat.le_refl _) (.cells #[] 94)
    clear h
    go_enter Try.func40, Try.ntmps40
    go_wp2_with (at_builtin; refine wpList_append_any _ rfl (.tmp 5) (.tmp 6) _ rfl w.heap.size 94 i0 _ 4 32 Try.underlying40 hi0 hz0 hz1 hz2 rfl (by omega) (.slice (some ⟨w.heap.size, 0, none⟩) 0 0) 0 [] rfl o0 B (some ad) n c xs rfl h1 hx (by simp only [maxLen]; omega) (by omega) (by simp) ?_; intro v1 w1 o1 g1 at1)
    exact FH.out _ _ _ b0 o1 g1

end Go.Proofs.Ytjgbkicnagcmdaa
