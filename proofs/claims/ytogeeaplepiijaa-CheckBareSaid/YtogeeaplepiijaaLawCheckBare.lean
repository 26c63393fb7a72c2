/- CheckBare: the walk. -/
import Derived.Test.YtogeeaplepiijaaEv
namespace Go.Proofs.Ytogeeaplepiijaa
open Go.RowKit

theorem evOf_cases (k a b c : Int) : (∃ p i q, evOf k a b c = ⟨1, p, i, q, 0, 0⟩ ∧ 0 ≤ p ∧ p ≤ 1 ∧ 0 ≤ i ∧ i ≤ 23 ∧ 0 ≤ q ∧ q ≤ 999) ∨ evOf k a b c = ⟨2, 0, 0, 0, 0, 0⟩ ∨
    (∃ h n, evOf k a b c = ⟨3, 0, 0, 0, h, n⟩ ∧ 0 ≤ h ∧ h ≤ 2 ∧ 0 ≤ n ∧ n ≤ 5) ∨ evOf k a b c = ⟨4, 0, 0, 0, 0, 0⟩ := by
  unfold evOf
  have := pick_lo a 2 (by omega); have := pick_hi a 2 (by omega)
  have := pick_lo b 24 (by omega); have := pick_hi b 24 (by omega)
  have := pick_lo c 1000 (by omega); have := pick_hi c 1000 (by omega)
  have := pick_lo a 3 (by omega); have := pick_hi a 3 (by omega)
  have := pick_lo b 6 (by omega); have := pick_hi b 6 (by omega)
  split
  · exact .inl ⟨_, _, _, rfl, by omega, by omega, by omega, by omega, by omega, by omega⟩
  · split
    · exact .inr (.inl rfl)
    · split
      · exact .inr (.inr (.inl ⟨_, _, rfl, by omega, by omega, by omega, by omega⟩))
      · exact .inr (.inr (.inr rfl))

theorem evOf_ok (k a b c : Int) : (evOf k a b c).check = 0 := by
  rcases evOf_cases k a b c with ⟨p, i, q, h, h1, h2, h3, h4, h5, h6⟩ | h | ⟨e, n, h, h1, h2, h3, h4⟩ | h
  · rw [h]
    simp [Ev.check, Ev.ok1, inB]
    omega
  · rw [h]; rfl
  · rw [h]
    simp [Ev.check, Ev.ok3, inB]
    omega
  · rw [h]; rfl

set_option maxHeartbeats 2000000 in
theorem checkBare_walk (a0 a1 a2 a3 b0 b1 b2 b3 c : Int) (w : World) (h00 : Is64 a0) (h01 : Is64 a1) (h02 : Is64 a2) (h03 : Is64 a3) (h10 : Is64 b0) (h11 : Is64 b1) (h12 : Is64 b2) (h13 : Is64 b3) (h2 : Is64 c) :
    Calls Try.prog 7 #[.agg #[.int .i64 a0, .int .i64 a1, .int .i64 a2, .int .i64 a3], .agg #[.int .i64 b0, .int .i64 b1, .int .i64 b2, .int .i64 b3], .int .i64 c] w
      fun e w' => e = .returned (.bool true) ∧ Below w.heap.size w w' := by
  obtain ⟨hl1, hl2⟩ := h2
  have px := pick_lo c 3 (by omega)
  have px' := pick_hi c 3 (by omega)
  have ok1 := evOf_ok a0 a1 a2 a3
  have ok2 := evOf_ok b0 b1 b2 b3
  have cs1 := evOf_cases a0 a1 a2 a3
  have C1 := fun w => Lib.hid (event_any a0 a1 a2 a3 w h00 h01 h02 h03)
  have C2 := fun w => Lib.hid (event_any b0 b1 b2 b3 w h10 h11 h12 h13)
  generalize evOf a0 a1 a2 a3 = x at *
  generalize evOf b0 b1 b2 b3 = y at *
  have O2 := Lib.hid ok2
  have O1 := Lib.hid ok1
  have S1 := Lib.hid cs1
  clear ok2 ok1 cs1 h00 h01 h02 h03 h10 h11 h12 h13
  obtain ⟨x1, x2, x3, x4, x5, x6⟩ := x
  obtain ⟨y1, y2, y3, y4, y5, y6⟩ := y
  go_enter Try.func7, Try.ntmps7
  go_wp2_with fail
  refine (C1 _).out.mono ?_
  rintro e w1 ⟨rfl, hb1⟩
  obtain ⟨hc1, hf1⟩ := bcell hb1
  have hz1 : w.heap.size + 1 < w1.heap.size := by have := hb1.size; simp at this; omega
  have D1 : Below w.heap.size w w1 := (((Below.refl _ _).alloc (Nat.le_refl _) _).alloc (by simp) _).trans (hb1.mono (by simp; omega))
  clear hb1
  unfold Ev.val
  go_wp2_with fail
  refine (C2 _).out.mono ?_
  rintro e w2 ⟨rfl, hb2⟩
  have E1 := (Blk.new w1 40 #[.int .i64 x1, .int .i64 x2, .int .i64 x3, .int .i64 x4, .int .i64 x5, .int .i64 x6]).below hb2 (by simp)
  have hz2 : w1.heap.size < w2.heap.size := E1.lt
  have D2 : Below w.heap.size w w2 := (D1.alloc D1.size _).trans (hb2.mono (by have := D1.size; simp; omega))
  clear hb2 D1 hc1 hf1 hz1
  have hc2 := E1.cell
  have hf2 := E1.frozen
  unfold Ev.val
  go_wp2_with fail
  refine (check_any _ _ _ _ _ _ _).mono ?_
  rintro e w3 ⟨rfl, hb3⟩
  rw [O1.out]
  have E2 := (Blk.new w2 40 #[.int .i64 y1, .int .i64 y2, .int .i64 y3, .int .i64 y4, .int .i64 y5, .int .i64 y6]).below hb3 (by simp)
  have E3 := (E1.alloc (.cells #[.int .i64 y1, .int .i64 y2, .int .i64 y3, .int .i64 y4, .int .i64 y5, .int .i64 y6] 40)).below hb3 (by simp; omega)
  have D3 : Below w.heap.size w w3 := (D2.alloc D2.size _).trans (hb3.mono (by have := D2.size; simp; omega))
  clear hb3 D2 hc2 hf2 hz2 E1
  have hc3 := E2.cell
  have hc3' := E3.cell
  go_wp2_with fail
  refine (check_any _ _ _ _ _ _ _).mono ?_
  rintro e w4 ⟨rfl, hb4⟩
  rw [O2.out]
  have E4 := E3.below hb4 E3.lt
  have D4 : Below w.heap.size w w4 := D3.trans (hb4.mono D3.size)
  clear hb4 D3 hc3 hc3' E2 E3
  go_wp2_with fail
  refine (check_any _ _ _ _ _ _ _).mono ?_
  rintro e w5 ⟨rfl, hb5⟩
  rw [show Ev.check ⟨0, 0, 0, 0, 0, 0⟩ = 3 from rfl]
  have E5 := E4.below hb5 E4.lt
  have D5 : Below w.heap.size w w5 := D4.trans (hb5.mono D4.size)
  clear hb5 D4 E4
  have hc5 := E5.cell
  have hf5 := E5.frozen
  have hz5 := E5.lt
  go_wp2_with fail
  refine (picked_any _ _ _ (by omega) (by omega) (by omega) (by omega)).mono ?_
  rintro e w6 ⟨rfl, rfl⟩
  generalize pick c 3 = m at *
  have hgE : Try.prog.eqGuardType Try.prog.depth 40 = false := by kernel_rfl
  have hgH : Try.prog.eqGuardType Try.prog.depth 38 = false := by kernel_rfl
  have hqE := ev_eql
  have hqH := handle_eql
  clear O1 O2 C1 C2
  rcases S1.out with ⟨p, i, q, h, h1, h2, h3, h4, h5, h6⟩ | h | ⟨hh, n, h, h1, h2, h3, h4⟩ | h
  · simp only [Ev.mk.injEq] at h
    obtain ⟨rfl, rfl, rfl, rfl, rfl, rfl⟩ := h
    clear S1
    rcases (show m = 0 ∨ m = 1 ∨ m = 2 by omega) with rfl | rfl | rfl
    · go_wp2_with fail
      refine (check_any _ _ _ _ _ _ _).mono ?_
      rintro e w7 ⟨rfl, hb7⟩
      rw [show Ev.check ⟨1, x2, x3, 1, 0, 0⟩ = 0 by simp [Ev.check, Ev.ok1, inB]; omega]
      have E7 := (E5.alloc (.cells #[.int .i64 1, .int .i64 x2, .int .i64 x3, .int .i64 1, .int .i64 0, .int .i64 0] 40)).below hb7 (by simp; omega)
      have F7 := (Blk.new w5 40 #[.int .i64 1, .int .i64 x2, .int .i64 x3, .int .i64 1, .int .i64 0, .int .i64 0]).below hb7 (by simp)
      have D7 : Below w.heap.size w w7 := (D5.alloc D5.size _).trans (hb7.mono (by have := D5.size; simp; omega))
      clear hb7 D5 E5 hc5 hf5 hz5
      have g1 := E7.cell
      have g2 := F7.cell
      cases hne : evNe 1 x2 x3 1 0 0 1 x2 x3 x4 0 0 with
      | false =>
        go_wp2
        go_ret
        exact ⟨rfl, D7⟩
      | true =>
        go_wp2
        go_ret
        exact ⟨rfl, D7⟩
    · go_wp2_with fail
      refine (check_any _ _ _ _ _ _ _).mono ?_
      rintro e w7 ⟨rfl, hb7⟩
      rw [show Ev.check ⟨1, x2, x3, x4, 0, 1⟩ = 3 by simp [Ev.check, Ev.ok1, inB]; omega]
      have E7 := (E5.alloc (.cells #[.int .i64 1, .int .i64 x2, .int .i64 x3, .int .i64 x4, .int .i64 0, .int .i64 1] 40)).below hb7 (by simp; omega)
      have F7 := (Blk.new w5 40 #[.int .i64 1, .int .i64 x2, .int .i64 x3, .int .i64 x4, .int .i64 0, .int .i64 1]).below hb7 (by simp)
      have D7 : Below w.heap.size w w7 := (D5.alloc D5.size _).trans (hb7.mono (by have := D5.size; simp; omega))
      clear hb7 D5 E5 hc5 hf5 hz5
      have g1 := E7.cell
      have g2 := F7.cell
      have hne : evNe 1 x2 x3 x4 0 1 1 x2 x3 x4 0 0 = true := by simp [evNe]
      go_wp2
      go_ret
      exact ⟨rfl, D7⟩
    · go_wp2_with fail
      refine (check_any _ _ _ _ _ _ _).mono ?_
      rintro e w7 ⟨rfl, hb7⟩
      rw [show Ev.check ⟨1, x2, 1, x4, 0, 0⟩ = 0 by simp [Ev.check, Ev.ok1, inB]; omega]
      have E7 := (E5.alloc (.cells #[.int .i64 1, .int .i64 x2, .int .i64 1, .int .i64 x4, .int .i64 0, .int .i64 0] 40)).below hb7 (by simp; omega)
      have F7 := (Blk.new w5 40 #[.int .i64 1, .int .i64 x2, .int .i64 1, .int .i64 x4, .int .i64 0, .int .i64 0]).below hb7 (by simp)
      have D7 : Below w.heap.size w w7 := (D5.alloc D5.size _).trans (hb7.mono (by have := D5.size; simp; omega))
      clear hb7 D5 E5 hc5 hf5 hz5
      have g1 := E7.cell
      have g2 := F7.cell
      cases hne : evNe 1 x2 1 x4 0 0 1 x2 x3 x4 0 0 with
      | false =>
        go_wp2
        go_ret
        exact ⟨rfl, D7⟩
      | true =>
        go_wp2
        go_ret
        exact ⟨rfl, D7⟩
  · simp only [Ev.mk.injEq] at h
    obtain ⟨rfl, rfl, rfl, rfl, rfl, rfl⟩ := h
    clear S1
    rcases (show m = 0 ∨ m = 1 ∨ m = 2 by omega) with rfl | rfl | rfl
    · go_wp2_with fail
      refine (check_any _ _ _ _ _ _ _).mono ?_
      rintro e w7 ⟨rfl, hb7⟩
      rw [show Ev.check ⟨2, 0, 0, 1, 0, 0⟩ = 3 by rfl]
      have E7 := (E5.alloc (.cells #[.int .i64 2, .int .i64 0, .int .i64 0, .int .i64 1, .int .i64 0, .int .i64 0] 40)).below hb7 (by simp; omega)
      have F7 := (Blk.new w5 40 #[.int .i64 2, .int .i64 0, .int .i64 0, .int .i64 1, .int .i64 0, .int .i64 0]).below hb7 (by simp)
      have D7 : Below w.heap.size w w7 := (D5.alloc D5.size _).trans (hb7.mono (by have := D5.size; simp; omega))
      clear hb7 D5 E5 hc5 hf5 hz5
      have g1 := E7.cell
      have g2 := F7.cell
      have hne : evNe 2 0 0 1 0 0 2 0 0 0 0 0 = true := by simp [evNe]
      go_wp2
      go_ret
      exact ⟨rfl, D7⟩
    · go_wp2_with fail
      refine (check_any _ _ _ _ _ _ _).mono ?_
      rintro e w7 ⟨rfl, hb7⟩
      rw [show Ev.check ⟨2, 0, 0, 0, 0, 1⟩ = 3 by rfl]
      have E7 := (E5.alloc (.cells #[.int .i64 2, .int .i64 0, .int .i64 0, .int .i64 0, .int .i64 0, .int .i64 1] 40)).below hb7 (by simp; omega)
      have F7 := (Blk.new w5 40 #[.int .i64 2, .int .i64 0, .int .i64 0, .int .i64 0, .int .i64 0, .int .i64 1]).below hb7 (by simp)
      have D7 : Below w.heap.size w w7 := (D5.alloc D5.size _).trans (hb7.mono (by have := D5.size; simp; omega))
      clear hb7 D5 E5 hc5 hf5 hz5
      have g1 := E7.cell
      have g2 := F7.cell
      have hne : evNe 2 0 0 0 0 1 2 0 0 0 0 0 = true := by simp [evNe]
      go_wp2
      go_ret
      exact ⟨rfl, D7⟩
    · go_wp2_with fail
      refine (check_any _ _ _ _ _ _ _).mono ?_
      rintro e w7 ⟨rfl, hb7⟩
      rw [show Ev.check ⟨2, 0, 1, 0, 0, 0⟩ = 3 by rfl]
      have E7 := (E5.alloc (.cells #[.int .i64 2, .int .i64 0, .int .i64 1, .int .i64 0, .int .i64 0, .int .i64 0] 40)).below hb7 (by simp; omega)
      have F7 := (Blk.new w5 40 #[.int .i64 2, .int .i64 0, .int .i64 1, .int .i64 0, .int .i64 0, .int .i64 0]).below hb7 (by simp)
      have D7 : Below w.heap.size w w7 := (D5.alloc D5.size _).trans (hb7.mono (by have := D5.size; simp; omega))
      clear hb7 D5 E5 hc5 hf5 hz5
      have g1 := E7.cell
      have g2 := F7.cell
      have hne : evNe 2 0 1 0 0 0 2 0 0 0 0 0 = true := by simp [evNe]
      go_wp2
      go_ret
      exact ⟨rfl, D7⟩
  · simp only [Ev.mk.injEq] at h
    obtain ⟨rfl, rfl, rfl, rfl, rfl, rfl⟩ := h
    clear S1
    rcases (show m = 0 ∨ m = 1 ∨ m = 2 by omega) with rfl | rfl | rfl
    · go_wp2_with fail
      refine (check_any _ _ _ _ _ _ _).mono ?_
      rintro e w7 ⟨rfl, hb7⟩
      rw [show Ev.check ⟨3, 0, 0, 1, x5, x6⟩ = 3 by simp [Ev.check, Ev.ok3, inB]; omega]
      have E7 := (E5.alloc (.cells #[.int .i64 3, .int .i64 0, .int .i64 0, .int .i64 1, .int .i64 x5, .int .i64 x6] 40)).below hb7 (by simp; omega)
      have F7 := (Blk.new w5 40 #[.int .i64 3, .int .i64 0, .int .i64 0, .int .i64 1, .int .i64 x5, .int .i64 x6]).below hb7 (by simp)
      have D7 : Below w.heap.size w w7 := (D5.alloc D5.size _).trans (hb7.mono (by have := D5.size; simp; omega))
      clear hb7 D5 E5 hc5 hf5 hz5
      have g1 := E7.cell
      have g2 := F7.cell
      have hne : evNe 3 0 0 1 x5 x6 3 0 0 0 x5 x6 = true := by simp [evNe]
      go_wp2
      go_ret
      exact ⟨rfl, D7⟩
    · go_wp2_with fail
      refine (check_any _ _ _ _ _ _ _).mono ?_
      rintro e w7 ⟨rfl, hb7⟩
      rw [show Ev.check ⟨3, 0, 0, 0, x5, 1⟩ = 0 by simp [Ev.check, Ev.ok3, inB]; omega]
      have E7 := (E5.alloc (.cells #[.int .i64 3, .int .i64 0, .int .i64 0, .int .i64 0, .int .i64 x5, .int .i64 1] 40)).below hb7 (by simp; omega)
      have F7 := (Blk.new w5 40 #[.int .i64 3, .int .i64 0, .int .i64 0, .int .i64 0, .int .i64 x5, .int .i64 1]).below hb7 (by simp)
      have D7 : Below w.heap.size w w7 := (D5.alloc D5.size _).trans (hb7.mono (by have := D5.size; simp; omega))
      clear hb7 D5 E5 hc5 hf5 hz5
      have g1 := E7.cell
      have g2 := F7.cell
      cases hne : evNe 3 0 0 0 x5 1 3 0 0 0 x5 x6 with
      | false =>
        go_wp2
        go_ret
        exact ⟨rfl, D7⟩
      | true =>
        go_wp2
        go_ret
        exact ⟨rfl, D7⟩
    · go_wp2_with fail
      refine (check_any _ _ _ _ _ _ _).mono ?_
      rintro e w7 ⟨rfl, hb7⟩
      rw [show Ev.check ⟨3, 0, 1, 0, x5, x6⟩ = 3 by simp [Ev.check, Ev.ok3, inB]; omega]
      have E7 := (E5.alloc (.cells #[.int .i64 3, .int .i64 0, .int .i64 1, .int .i64 0, .int .i64 x5, .int .i64 x6] 40)).below hb7 (by simp; omega)
      have F7 := (Blk.new w5 40 #[.int .i64 3, .int .i64 0, .int .i64 1, .int .i64 0, .int .i64 x5, .int .i64 x6]).below hb7 (by simp)
      have D7 : Below w.heap.size w w7 := (D5.alloc D5.size _).trans (hb7.mono (by have := D5.size; simp; omega))
      clear hb7 D5 E5 hc5 hf5 hz5
      have g1 := E7.cell
      have g2 := F7.cell
      have hne : evNe 3 0 1 0 x5 x6 3 0 0 0 x5 x6 = true := by simp [evNe]
      go_wp2
      go_ret
      exact ⟨rfl, D7⟩
  · simp only [Ev.mk.injEq] at h
    obtain ⟨rfl, rfl, rfl, rfl, rfl, rfl⟩ := h
    clear S1
    rcases (show m = 0 ∨ m = 1 ∨ m = 2 by omega) with rfl | rfl | rfl
    · go_wp2_with fail
      refine (check_any _ _ _ _ _ _ _).mono ?_
      rintro e w7 ⟨rfl, hb7⟩
      rw [show Ev.check ⟨4, 0, 0, 1, 0, 0⟩ = 3 by rfl]
      have E7 := (E5.alloc (.cells #[.int .i64 4, .int .i64 0, .int .i64 0, .int .i64 1, .int .i64 0, .int .i64 0] 40)).below hb7 (by simp; omega)
      have F7 := (Blk.new w5 40 #[.int .i64 4, .int .i64 0, .int .i64 0, .int .i64 1, .int .i64 0, .int .i64 0]).below hb7 (by simp)
      have D7 : Below w.heap.size w w7 := (D5.alloc D5.size _).trans (hb7.mono (by have := D5.size; simp; omega))
      clear hb7 D5 E5 hc5 hf5 hz5
      have g1 := E7.cell
      have g2 := F7.cell
      have hne : evNe 4 0 0 1 0 0 4 0 0 0 0 0 = true := by simp [evNe]
      go_wp2
      go_ret
      exact ⟨rfl, D7⟩
    · go_wp2_with fail
      refine (check_any _ _ _ _ _ _ _).mono ?_
      rintro e w7 ⟨rfl, hb7⟩
      rw [show Ev.check ⟨4, 0, 0, 0, 0, 1⟩ = 3 by rfl]
      have E7 := (E5.alloc (.cells #[.int .i64 4, .int .i64 0, .int .i64 0, .int .i64 0, .int .i64 0, .int .i64 1] 40)).below hb7 (by simp; omega)
      have F7 := (Blk.new w5 40 #[.int .i64 4, .int .i64 0, .int .i64 0, .int .i64 0, .int .i64 0, .int .i64 1]).below hb7 (by simp)
      have D7 : Below w.heap.size w w7 := (D5.alloc D5.size _).trans (hb7.mono (by have := D5.size; simp; omega))
      clear hb7 D5 E5 hc5 hf5 hz5
      have g1 := E7.cell
      have g2 := F7.cell
      have hne : evNe 4 0 0 0 0 1 4 0 0 0 0 0 = true := by simp [evNe]
      go_wp2
      go_ret
      exact ⟨rfl, D7⟩
    · go_wp2_with fail
      refine (check_any _ _ _ _ _ _ _).mono ?_
      rintro e w7 ⟨rfl, hb7⟩
      rw [show Ev.check ⟨4, 0, 1, 0, 0, 0⟩ = 3 by rfl]
      have E7 := (E5.alloc (.cells #[.int .i64 4, .int .i64 0, .int .i64 1, .int .i64 0, .int .i64 0, .int .i64 0] 40)).below hb7 (by simp; omega)
      have F7 := (Blk.new w5 40 #[.int .i64 4, .int .i64 0, .int .i64 1, .int .i64 0, .int .i64 0, .int .i64 0]).below hb7 (by simp)
      have D7 : Below w.heap.size w w7 := (D5.alloc D5.size _).trans (hb7.mono (by have := D5.size; simp; omega))
      clear hb7 D5 E5 hc5 hf5 hz5
      have g1 := E7.cell
      have g2 := F7.cell
      have hne : evNe 4 0 1 0 0 0 4 0 0 0 0 0 = true := by simp [evNe]
      go_wp2
      go_ret
      exact ⟨rfl, D7⟩

end Go.Proofs.Ytogeeaplepiijaa
