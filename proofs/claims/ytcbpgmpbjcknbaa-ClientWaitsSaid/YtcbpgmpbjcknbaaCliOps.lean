/- Clients: New, own, Learn, Ask. -/
import Derived.Test.YtcbpgmpbjcknbaaCli
namespace Go.Proofs.Ytcbpgmpbjcknbaa
open Go.RowKit

theorem ev_info : (Try.prog.info? 58).map (fun i => (i.zero, i.size, i.bytes)) = some (some (.agg #[.int .i64 0, .int .i64 0, .int .i64 0, .int .i64 0, .int .i64 0, .int .i64 0]), 6, 48) := by kernel_rfl
theorem evRow_one (p : Int) (ws : List (Int × Int)) : ∀ u ∈ evRow p ws, u.oneCell' = true := by
  intro u hu
  obtain ⟨r, _, hu⟩ := List.mem_flatMap.1 hu
  obtain ⟨z, _, rfl⟩ := List.mem_map.1 hu
  rfl

/-- a copy, in new memory -/
def ClonePost (w : World) (n : Nat) (xs : List Value) (ed : Ending) (w' : World) : Prop := Gives w 58 6 n xs ed w'

set_option maxHeartbeats 400000 in
theorem clone_ev (A : Option Addr) (n c B : Nat) (xs : List Value) (w : World) (h : Reads w B 6 A n xs) (hx : ∀ u ∈ xs, u.oneCell' = true) (hn : n ≤ c) (hc : n ≤ 100000) (hB : B ≤ w.heap.size) :
    Calls Try.prog 30 #[.slice A n c] w (ClonePost w n xs) := by
  obtain ⟨i0, hi0, hz0, hz1, hz2⟩ := info_parts ev_info
  have hnil := fun (W : World) => Lib.run_eql_slice_nil (P := Try.prog) W 43 58 A n c 0 0 Try.underlying43
  rcases A with _ | ad
  · have h0 : n = 0 := by
      rcases Nat.eq_zero_or_pos n with h0 | h0
      · exact h0
      · obtain ⟨_, h1, _⟩ := h.2 h0; cases h1
    subst h0
    have hd : xs = [] := List.eq_nil_of_length_eq_zero (by simpa using h.1)
    subst hd
    have FIN := Lib.hid (show ClonePost w 0 [] (.returned (.slice none 0 0)) w from ⟨_, rfl, World.ownsRow_nil _ _ _ _, Below.refl _ _⟩)
    generalize ClonePost w 0 [] = POST at *
    clear h hx
    go_enter Try.func30, Try.ntmps30
    go_wp2
    exact FIN.out
  · have FIN : ∀ v w1 w2, Below w.heap.size w w1 → w2.ownsRow w.heap.size 58 6 v (0 + n) ([] ++ xs) → w1.grownBy w2 (some w.heap.size) → ClonePost w n xs (.returned v) w2 := fun v w1 w2 hb ho hg => by
      rw [Nat.zero_add, List.nil_append] at ho
      exact ⟨v, rfl, ho, hb.grown hg hb.size (fun k hk => by cases hk; exact Nat.le_refl _)⟩
    have FH := Lib.hid FIN
    clear FIN
    generalize ClonePost w n xs = POST at *
    have h1 := h.alloc hB (.cells #[] 58)
    have o0 : (w.alloc (.cells #[] 58)).ownsRow w.heap.size 58 6 (.slice (some ⟨w.heap.size, 0, none⟩) 0 0) 0 [] :=
      ⟨by simp, .inr ⟨w.heap.size, 0, #[], rfl, Nat.le_refl _, heap_alloc_new w _, Nat.le_refl _, by simp [maxLen], by simp, by simp⟩⟩
    have b0 := (Below.refl w.heap.size w).alloc (Nat.le_refl _) (.cells #[] 58)
    clear h
    go_enter Try.func30, Try.ntmps30
    go_wp2_with (at_builtin; refine wpList_append_any _ rfl (.tmp 5) (.tmp 6) _ rfl w.heap.size 58 i0 _ 6 48 Try.underlying43 hi0 hz0 hz1 hz2 rfl (by omega) (.slice (some ⟨w.heap.size, 0, none⟩) 0 0) 0 [] rfl o0 B (some ad) n c xs rfl h1 hx (by simp only [maxLen]; omega) (by omega) (by simp) ?_; intro v1 w1 o1 g1 at1)
    exact FH.out _ _ _ b0 o1 g1

theorem blk2 (w : World) (a b : TypeId) (A B : Array Value) :
    Blk ((w.alloc (.cells A a)).alloc (.cells B b)) w.heap.size a A ∧ Blk ((w.alloc (.cells A a)).alloc (.cells B b)) (w.heap.size + 1) b B ∧ Below w.heap.size w ((w.alloc (.cells A a)).alloc (.cells B b)) := by
  refine ⟨(Blk.new w a A).alloc _, ?_, ((Below.refl _ _).alloc (Nat.le_refl _) _).alloc (by simp) _⟩
  have := Blk.new (w.alloc (.cells A a)) b B
  rwa [World.size_alloc] at this

theorem put7_eq (w : World) (g : Nat) (a b c d e f h : Value) :
    ((((((w.setCell ⟨g, 0, none⟩ a).setCell ⟨g, 1, none⟩ b).setCell ⟨g, 2, none⟩ c).setCell ⟨g, 3, none⟩ d).setCell ⟨g, 4, none⟩ e).setCell ⟨g, 5, none⟩ f).setCell ⟨g, 6, none⟩ h = putFrom w g 0 [a, b, c, d, e, f, h] := rfl

/-- a client with what waits in its own memory -/
def OwnPost (w : World) (p nx : Int) (n : Nat) (xs : List Value) (f : Nat → Int) (e : Ending) (w' : World) : Prop :=
  ∃ v, e = .returned (.agg (cliCells p nx v f)) ∧ w'.ownsRow w.heap.size 58 6 v n xs ∧ Below w.heap.size w w'

set_option maxHeartbeats 800000 in
theorem own_ok (p nx : Int) (A : Option Addr) (n c B : Nat) (xs : List Value) (f : Nat → Int) (w : World) (h : Reads w B 6 A n xs) (hx : ∀ u ∈ xs, u.oneCell' = true) (hn : n ≤ c) (hc : n ≤ 100000) (hB : B ≤ w.heap.size) :
    Calls Try.prog 25 #[.agg (cliCells p nx (.slice A n c) f)] w (OwnPost w p nx n xs f) := by
  have CC := Lib.hid (fun W hr hb => clone_ev A n c B xs W hr hx hn hc hb)
  obtain ⟨E, F, bel⟩ := blk2 w 46 46 (cliCells p nx (.slice A n c) f) (cliCells 0 0 (.slice none 0 0) (fun _ => 0))
  have hr := (h.alloc hB (.cells (cliCells p nx (.slice A n c) f) 46)).alloc (by simp; omega) (.cells (cliCells 0 0 (.slice none 0 0) (fun _ => 0)) 46)
  have HP := Lib.hid (show ∀ v w', w'.ownsRow w.heap.size 58 6 v n xs → Below w.heap.size w w' → OwnPost w p nx n xs f (.returned (.agg (cliCells p nx v f))) w' from fun v w' h1 h2 => ⟨v, rfl, h1, h2⟩)
  generalize OwnPost w p nx n xs f = POST at *
  clear h
  unfold cliCells at *
  go_enter Try.func25, Try.ntmps25
  go_wp2_with fail
  refine (CC.out _ hr (by simp; omega)).mono ?_
  rintro e w1 ⟨v, rfl, o1, b1⟩
  obtain ⟨A2, c2, rfl, hc2, _⟩ := own_shape o1
  have E1 := E.below b1 E.lt
  have F1 := F.below b1 F.lt
  have bel1 := bel.trans (b1.mono (by simp; omega))
  have o2 := own_base (base' := w.heap.size) o1 (by simp; omega)
  have n1 := own_blk_ne o2 E1 (by decide)
  have n2 := own_blk_ne o2 F1 (by decide)
  have x0 := E1.cell 0
  have x1 := E1.cell 1
  have x2 := E1.cell 2
  have x3 := E1.cell 3
  have x4 := E1.cell 4
  have x5 := E1.cell 5
  have x6 := E1.cell 6
  have y0 := F1.cell 0
  have y1 := F1.cell 1
  have y2 := F1.cell 2
  have y3 := F1.cell 3
  have y4 := F1.cell 4
  have y5 := F1.cell 5
  have y6 := F1.cell 6
  have xf := E1.frozen
  have yf := F1.frozen
  clear CC hr E F bel o1 b1
  have hfin := HP.out _ _ (putFrom_own (g := w.heap.size + 1) n2 [.int .i64 p, .int .i64 nx, .slice A2 n c2, .int .i64 (f 0), .int .i64 (f 1), .int .i64 (f 2), .int .i64 (f 3)] 0 _ (ownsRow_setCell_other (a := ⟨w.heap.size, 2, none⟩) o2 n1 (.slice A2 n c2)))
    (putFrom_below (g := w.heap.size + 1) (by simp) [.int .i64 p, .int .i64 nx, .slice A2 n c2, .int .i64 (f 0), .int .i64 (f 1), .int .i64 (f 2), .int .i64 (f 3)] 0 _ (bel1.setCell (p := ⟨w.heap.size, 2, none⟩) (Nat.le_refl _) (.slice A2 n c2)))
  go_wp2_with fail
  exact bodyPost_ret (v := .agg #[.int .i64 p, .int .i64 nx, .slice A2 n c2, .int .i64 (f 0), .int .i64 (f 1), .int .i64 (f 2), .int .i64 (f 3)]) (by simp [results, Try.results25, go_sem, *]) rfl (by rw [put7_eq]; exact hfin)

end Go.Proofs.Ytcbpgmpbjcknbaa
