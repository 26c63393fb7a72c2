/- WindowGaps, WindowFar: the walks. -/
import Derived.Test.YtogeeaplepiijaaWinTake
import Derived.Test.YtogeeaplepiijaaWinEq
import Derived.Test.YtogeeaplepiijaaPick
import Derived.Test.YtogeeaplepiijaaView
namespace Go.Proofs.Ytogeeaplepiijaa
open Go.RowKit

theorem WOk.none_ : WOk 0 (fun _ => false) := ⟨by omega, by omega, fun _ h => by simp at h, fun h => by omega⟩

set_option maxHeartbeats 2000000 in
theorem windowGaps_walk (a0 a1 a2 : Int) (w : World) (h0 : Is64 a0) (h1 : Is64 a1) (h2 : Is64 a2) :
    Calls Try.prog 10 #[.int .i64 a0, .int .i64 a1, .int .i64 a2] w fun e w' => e = .returned (.bool true) ∧ Below w.heap.size w w' := by
  obtain ⟨h01, h02⟩ := h0
  obtain ⟨h11, h12⟩ := h1
  obtain ⟨h21, h22⟩ := h2
  have pn := pick_lo a0 1000 (by omega)
  have pn' := pick_hi a0 1000 (by omega)
  have pm := pick_lo a1 6 (by omega)
  have pm' := pick_hi a1 6 (by omega)
  go_enter Try.func10, Try.ntmps10
  go_wp2_with fail
  refine (picked_any _ _ _ (by omega) (by omega) (by omega) (by omega)).mono ?_
  rintro e w1 ⟨rfl, rfl⟩
  generalize pick a0 1000 = n at *
  go_wp2_with fail
  have k1 := WOk.none_
  refine (wtake_fresh 0 (fun _ => false) n _ k1 (by omega) (by omega) (by omega) rfl (n + 1) (by omega)).mono ?_
  rintro e w1 ⟨rfl, b1⟩
  have k2 : WOk (n + 1) (fun x => false || x == n) := by have := k1.take pn (by omega); rwa [show max 0 (n + 1) = n + 1 by omega] at this
  generalize hq1 : shows (n + 1) (fun x => false || x == n) = q1
  have Q1 := Lib.hid hq1
  clear hq1
  unfold winCells
  go_wp2_with fail
  refine (picked_any _ _ _ (by omega) (by omega) (by omega) (by omega)).mono ?_
  rintro e w2 ⟨rfl, rfl⟩
  generalize hg : pick a1 6 = g at *
  clear hg
  go_wp2_with fail
  have C2 := wtake_fresh (n + 1) (fun x => false || x == n) (n + 2 + g) (w1.alloc (.cells (winCells (n + 1) q1) 47)) k2 (by omega) (by omega) (by omega) (by simp; omega) (n + 2 + g + 1) (by omega)
  have k3 : WOk (n + 2 + g + 1) (fun x => (false || x == n) || x == n + 2 + g) := by have := k2.take (id := n + 2 + g) (by omega) (by omega); rwa [show max (n + 1) (n + 2 + g + 1) = n + 2 + g + 1 by omega] at this
  rw [Q1.out] at C2
  refine C2.mono ?_
  clear C2 k2
  rintro e w2 ⟨rfl, b2⟩
  have E2 := (Blk.new w1 47 (winCells (n + 1) q1)).below b2 (by simp)
  have D2 : Below w.heap.size w w2 := (b1.alloc b1.size _).trans (b2.mono (by have := b1.size; simp; omega))
  clear b2
  generalize hq2 : shows (n + 2 + g + 1) (fun x => (false || x == n) || x == n + 2 + g) = q2
  have Q2 := Lib.hid hq2
  clear hq2
  obtain ⟨c0, c1, c2, c3, c4, c5, c6, c7, c8⟩ := winBlk E2
  have hf := E2.frozen
  have hz := E2.lt
  unfold winCells
  go_upto_region 5 with fail
  rw [put9_eq]
  have E3 := put9_blk E2 (n + 2 + g + 1) q2
  have D3 := put9_below D2 b1.size (n + 2 + g + 1) q2
  generalize put9 w2 w1.heap.size (n + 2 + g + 1) q2 = w3 at *
  clear E2 D2 c0 c1 c2 c3 c4 c5 c6 c7 c8 hf hz
  obtain ⟨c0, c1, c2, c3, c4, c5, c6, c7, c8⟩ := winBlk E3
  have pk := pick_lo a2 (n + 2 + g - n - 1) (by omega)
  have pk' := pick_hi a2 (n + 2 + g - n - 1) (by omega)
  go_wp2_with fail
  refine (picked_any _ _ _ (by omega) (by omega) (by omega) (by omega)).mono ?_
  rintro e w4 ⟨rfl, rfl⟩
  generalize hk : pick a2 (n + 2 + g - n - 1) = k at *
  clear hk
  go_wp2_with fail
  have C3 := wtake_fresh (n + 2 + g + 1) (fun x => (false || x == n) || x == n + 2 + g) (n + 1 + k) w3 k3 (by omega) (by omega) (by omega) (by simp; omega) (n + 2 + g + 1) (by omega)
  rw [Q2.out] at C3
  refine C3.mono ?_
  clear C3
  rintro e w4 ⟨rfl, b4⟩
  have E4 := E3.below b4 E3.lt
  have D4 := D3.trans (b4.mono D3.size)
  clear E3 D3 b4 c0 c1 c2 c3 c4 c5 c6 c7 c8
  obtain ⟨c0, c1, c2, c3, c4, c5, c6, c7, c8⟩ := winBlk E4
  have hz := E4.lt
  unfold winCells
  go_wp2_with fail
  have C5 := fun W => wseen_in (n + 2 + g + 1) (fun x => (false || x == n) || x == n + 2 + g) n W k3 (by omega) (by omega) (by omega)
  rw [Q2.out, show ((false || n == n) || n == n + 2 + g) = true by simp] at C5
  refine (C5 _).mono ?_
  clear C5
  rintro e w5 ⟨rfl, b5⟩
  have E5 := (E4.alloc (.cells _ _)).below b5 (E4.alloc (.cells _ _)).lt
  have D5 := (D4.alloc D4.size (.cells _ _)).trans (b5.mono (by have := D4.size; simp; omega))
  have c0 := (winBlk E5).1
  clear c1 c2 c3 c4 c5 c6 c7 c8 E4 E5 b5 D4
  go_wp2
  go_ret
  exact ⟨rfl, D5⟩

set_option maxHeartbeats 2000000 in
theorem windowFar_walk (a0 a1 : Int) (w : World) (h0 : Is64 a0) (h1 : Is64 a1) :
    Calls Try.prog 11 #[.int .i64 a0, .int .i64 a1] w fun e w' => e = .returned (.bool true) ∧ Below w.heap.size w w' := by
  obtain ⟨h01, h02⟩ := h0
  obtain ⟨h11, h12⟩ := h1
  have pn := pick_lo a0 1000 (by omega)
  have pn' := pick_hi a0 1000 (by omega)
  have pm := pick_lo a1 1000 (by omega)
  have pm' := pick_hi a1 1000 (by omega)
  go_enter Try.func11, Try.ntmps11
  go_wp2_with fail
  refine (picked_any _ _ _ (by omega) (by omega) (by omega) (by omega)).mono ?_
  rintro e w1 ⟨rfl, rfl⟩
  generalize pick a0 1000 = n at *
  go_wp2_with fail
  refine (picked_any _ _ _ (by omega) (by omega) (by omega) (by omega)).mono ?_
  rintro e w1 ⟨rfl, rfl⟩
  generalize pick a1 1000 = g at *
  obtain ⟨m, hm⟩ : ∃ m, m = n + 8 + g := ⟨_, rfl⟩
  have hm1 : n + 8 ≤ m := by omega
  have hm2 : m ≤ 2006 := by omega
  go_wp2_with fail
  rw [← hm]
  clear hm
  have k1 := WOk.none_
  refine (wtake_fresh 0 (fun _ => false) n _ k1 (by omega) (by omega) (by omega) rfl (n + 1) (by omega)).mono ?_
  rintro e w1 ⟨rfl, b1⟩
  have k2 : WOk (n + 1) (fun x => false || x == n) := by have := k1.take pn (by omega); rwa [show max 0 (n + 1) = n + 1 by omega] at this
  generalize hq1 : shows (n + 1) (fun x => false || x == n) = q1
  have Q1 := Lib.hid hq1
  clear hq1
  unfold winCells
  go_wp2_with fail
  have C2 := wtake_fresh (n + 1) (fun x => false || x == n) m (w1.alloc (.cells (winCells (n + 1) q1) 47)) k2 (by omega) (by omega) (by omega) (by simp; omega) (m + 1) (by omega)
  have k3 : WOk (m + 1) (fun x => (false || x == n) || x == m) := by have := k2.take (id := m) (by omega) (by omega); rwa [show max (n + 1) (m + 1) = m + 1 by omega] at this
  rw [Q1.out] at C2
  refine C2.mono ?_
  clear C2 k2
  rintro e w2 ⟨rfl, b2⟩
  have E2 := (Blk.new w1 47 (winCells (n + 1) q1)).below b2 (by simp)
  have D2 : Below w.heap.size w w2 := (b1.alloc b1.size _).trans (b2.mono (by have := b1.size; simp; omega))
  clear b2
  generalize hq2 : shows (m + 1) (fun x => (false || x == n) || x == m) = q2
  have Q2 := Lib.hid hq2
  clear hq2
  obtain ⟨c0, c1, c2, c3, c4, c5, c6, c7, c8⟩ := winBlk E2
  have hf := E2.frozen
  have hz := E2.lt
  unfold winCells
  go_upto_region 5 with fail
  rw [put9_eq]
  have E3 := put9_blk E2 (m + 1) q2
  have D3 := put9_below D2 b1.size (m + 1) q2
  generalize put9 w2 w1.heap.size (m + 1) q2 = w3 at *
  clear E2 D2 c0 c1 c2 c3 c4 c5 c6 c7 c8 hf hz
  obtain ⟨c0, c1, c2, c3, c4, c5, c6, c7, c8⟩ := winBlk E3
  go_wp2_with fail
  have C3 := wtake_low (m + 1) (fun x => (false || x == n) || x == m) n w3 k3 (by omega) (by omega) (by omega)
  rw [Q2.out] at C3
  refine C3.mono ?_
  clear C3
  rintro e w4 ⟨rfl, b4⟩
  have E4 := E3.below b4 E3.lt
  have D4 := D3.trans (b4.mono D3.size)
  clear E3 D3 b4 c0 c1 c2 c3 c4 c5 c6 c7 c8
  obtain ⟨c0, c1, c2, c3, c4, c5, c6, c7, c8⟩ := winBlk E4
  have hz := E4.lt
  unfold winCells
  go_wp2_with fail
  rw [show m - 8 + 1 = m - 7 by omega]
  have C5 := fun W => wtake_fresh (m + 1) (fun x => (false || x == n) || x == m) (m - 7) W k3 (by omega) (by omega) (by omega) (by simp; omega) (m + 1) (by omega)
  rw [Q2.out] at C5
  refine (C5 _).mono ?_
  clear C5
  rintro e w5 ⟨rfl, b5⟩
  have D5 := (D4.alloc D4.size (.cells _ _)).trans (b5.mono (by have := D4.size; simp; omega))
  clear c0 c1 c2 c3 c4 c5 c6 c7 c8 E4 b5 D4
  generalize shows (m + 1) (fun x => ((false || x == n) || x == m) || x == m - 7) = q5
  unfold winCells
  go_wp2
  go_ret
  exact ⟨rfl, D5.alloc D5.size _⟩

end Go.Proofs.Ytogeeaplepiijaa
