/- Clone of events, over 'St'; a berth's value. -/
import Derived.Test.YtjgbkicnagcmdaaBM
namespace Go.Proofs.Ytjgbkicnagcmdaa
open Go.RowKit

/-- a copy, in new memory -/
def ClonePostEv (w : World) (n : Nat) (xs : List Value) (ed : Ending) (w' : World) : Prop := Gives w 37 6 n xs ed w'

set_option maxHeartbeats 400000 in
theorem clone_ev (A : Option Addr) (n c B : Nat) (xs : List Value) (w : World) (h : Reads w B 6 A n xs) (hx : ∀ u ∈ xs, u.oneCell' = true) (hn : n ≤ c) (hc : n ≤ 100000) (hB : B ≤ w.heap.size) :
    Calls Try.prog 46 #[.slice A n c] w (ClonePostEv w n xs) := by
  obtain ⟨i0, hi0, hz0, hz1, hz2⟩ := info_parts ev_info
  have hnil := fun (W : World) => Lib.run_eql_slice_nil (P := Try.prog) W 25 37 A n c 0 0 Try.underlying25
  rcases A with _ | ad
  · have h0 : n = 0 := by
      rcases Nat.eq_zero_or_pos n with h0 | h0
      · exact h0
      · obtain ⟨_, h1, _⟩ := h.2 h0; cases h1
    subst h0
    have hd : xs = [] := List.eq_nil_of_length_eq_zero (by simpa using h.1)
    subst hd
    have FIN := Lib.hid (show ClonePostEv w 0 [] (.returned (.slice none 0 0)) w from ⟨_, rfl, World.ownsRow_nil _ _ _ _, Below.refl _ _⟩)
    generalize ClonePostEv w 0 [] = POST at *
    clear h hx
    go_enter Try.func46, Try.ntmps46
    go_wp2
    exact FIN.out
  · have FIN : ∀ v w1 w2, Below w.heap.size w w1 → w2.ownsRow w.heap.size 37 6 v (0 + n) ([] ++ xs) → w1.grownBy w2 (some w.heap.size) → ClonePostEv w n xs (.returned v) w2 := fun v w1 w2 hb ho hg => by
      rw [Nat.zero_add, List.nil_append] at ho
      exact ⟨v, rfl, ho, hb.grown hg hb.size (fun k hk => by cases hk; exact Nat.le_refl _)⟩
    have FH := Lib.hid FIN
    clear FIN
    generalize ClonePostEv w n xs = POST at *
    have h1 := h.alloc hB (.cells #[] 37)
    have o0 : (w.alloc (.cells #[] 37)).ownsRow w.heap.size 37 6 (.slice (some ⟨w.heap.size, 0, none⟩) 0 0) 0 [] :=
      ⟨by simp, .inr ⟨w.heap.size, 0, #[], rfl, Nat.le_refl _, heap_alloc_new w _, Nat.le_refl _, by simp [maxLen], by simp, by simp⟩⟩
    have b0 := (Below.refl w.heap.size w).alloc (Nat.le_refl _) (.cells #[] 37)
    clear h
    go_enter Try.func46, Try.ntmps46
    go_wp2_with (at_builtin; refine wpList_append_any _ rfl (.tmp 5) (.tmp 6) _ rfl w.heap.size 37 i0 _ 6 48 Try.underlying25 hi0 hz0 hz1 hz2 rfl (by omega) (.slice (some ⟨w.heap.size, 0, none⟩) 0 0) 0 [] rfl o0 B (some ad) n c xs rfl h1 hx (by simp only [maxLen]; omega) (by omega) (by simp) ?_; intro v1 w1 o1 g1 at1)
    exact FH.out _ _ _ b0 o1 g1

theorem clone_ev_st {w0 w : World} {I : List It} (es : List Ev) (A : Option Addr) (n c : Nat) (hl : es.length = n) (H : St w0 w I) [h : Has I (evIt A es)] (hn : n ≤ 1000) (hc : n ≤ c) :
    Calls Try.prog 46 #[.slice A n c] w (fun ed w' => ∃ v, ed = .returned v ∧ St w0 w' (.ow 37 6 v n (qevCells es) :: I)) := by
  refine (clone_ev A n c w.heap.size (qevCells es) w (H.evReads hl) (qevCells_one _) hc (by omega) (Nat.le_refl _)).mono fun ed w' ⟨v, h1, h2, h3⟩ => ⟨v, h1, H.newOwn h3 h2⟩
/-- a berth's value -/
def bArr (b : BM) (A : Option Addr) (n c : Nat) : Array Value := #[.int .i64 b.role, .int .i64 b.ep, .int .i64 b.frm, .int .i64 b.dst, .int .i64 b.rounds, .slice A n c]

end Go.Proofs.Ytjgbkicnagcmdaa
