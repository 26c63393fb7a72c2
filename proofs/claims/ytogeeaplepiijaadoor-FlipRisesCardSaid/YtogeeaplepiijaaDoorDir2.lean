/- The directory: Where at a queue that does not exist, New, Make, Flip. -/
import Derived.Test.YtogeeaplepiijaaDoorDir
namespace Go.Proofs.YtogeeaplepiijaaDoor
open Go.RowKit

set_option maxHeartbeats 1000000 in
theorem dwhere_none (n e : Nat → Int) (k : Nat) (q : Int) (w : World) (hw : Nowhere w) (h : ∀ k, k < 4 → PlaceOk (n k) (e k)) (hk : k < 4) (hq : q = k) (h0 : n k < 0) :
    Calls Tryd.prog 10 #[.agg (dirCells n e), .int .i64 q] w (Puts2 w (.agg #[.int .i64 0, .int .i64 0]) (.int .i64 7)) := by
  have C := fun W hW => Lib.hid (dask_ok n e k q W hW h hk hq)
  have hg : Tryd.prog.eqGuardType Tryd.prog.depth 24 = false := by kernel_rfl
  have hpq := place_eql
  have hp := h k hk
  unfold PlaceOk at hp
  have ha : n k = -1 := by omega
  have hb : e k = 0 := by omega
  rw [ha, hb] at C
  clear h hq hp ha hb h0
  go_enter Tryd.func10, Tryd.ntmps10
  unfold dirCells
  go_wp2_with fail
  refine (C _ (hw.below (((Below.refl w.heap.size w).alloc (Nat.le_refl _) _).alloc (by simp) _) hw.pos)).out.mono ?_
  rintro e' w1 ⟨rfl, hb⟩
  have E2 := (Blk.new (w.alloc (.cells (dirCells n e) 27)) 24 #[.int .i64 0, .int .i64 0]).below hb (by simp)
  rw [World.size_alloc] at E2
  have hbel : Below w.heap.size w w1 := (((Below.refl _ _).alloc (Nat.le_refl _) _).alloc (by simp) _).trans (hb.mono (by simp; omega))
  have hn := hw.below hbel hw.pos
  have y0 := hn.c0
  have y1 := hn.c1
  have yp := hn.pos
  have g0 := E2.cell
  have gf := E2.frozen
  have z2 := E2.lt
  clear hb C
  go_wp2
  exact bodyPost_ret (v := .tuple #[.agg #[.int .i64 0, .int .i64 0], .int .i64 7]) (by simp [results, Tryd.results10, go_sem, *]) rfl ⟨rfl, by repeat (first | with_reducible exact hbel | refine Below.setCell ?_ (by simp) _ | refine Below.alloc ?_ (by simp [World.setCell]; omega) _)⟩

/-- what New has laid behind k rounds -/
def newN (k : Nat) (j : Nat) : Int := if j < k then -1 else 0

set_option maxHeartbeats 2000000 in
theorem dnew_ok (w : World) (hw : Nowhere w) :
    Calls Tryd.prog 8 #[] w (Puts w (.agg (dirCells (fun _ => -1) (fun _ => 0)))) := by
  go_enter Tryd.func8, Tryd.ntmps8
  go_wp2
  go_loopw [3] (fun i wr => ∃ k : Nat, k ≤ 4 ∧ i = .int .i64 k ∧ Blk wr w.heap.size 27 (dirCells (fun _ => 0) (fun _ => 0)) ∧ Blk wr (w.heap.size + 1) 27 (dirCells (newN k) (fun _ => 0)) ∧ Below w.heap.size w wr) (fun i _ => 4 - (intOf i).toNat)
  case atStart => exact ⟨0, by omega, rfl, (Blk.new w 27 (dirCells (fun _ => 0) (fun _ => 0))).alloc _, by have := Blk.new (w.alloc (.cells (dirCells (fun _ => 0) (fun _ => 0)) 27)) 27 (dirCells (fun _ => 0) (fun _ => 0)); rw [World.size_alloc] at this; exact this, ((Below.refl _ _).alloc (Nat.le_refl _) _).alloc (by simp) _⟩
  case round =>
    obtain ⟨k, hk, rfl, E1, E2, hbel⟩ := hrel
    have hn := hw.below hbel hw.pos
    have y0 := hn.c0
    have y1 := hn.c1
    have yp := hn.pos
    have z1 := E1.lt
    have z2 := E2.lt
    rcases (show k = 0 ∨ k = 1 ∨ k = 2 ∨ k = 3 ∨ k = 4 by omega) with rfl | rfl | rfl | rfl | rfl
    iterate 4
      · obtain ⟨c0, c1, c2, c3, c4, c5, c6, c7⟩ := dirBlk E2
        have gf := E2.frozen
        go_wp2
        go_roundw
        case rel => first
          | exact ⟨1, by omega, rfl, (E1.far (by simp) _).far (by simp) _, by simpa [dirCells, newN] using (E2.set_ 0 (.int .i64 (-1))).set_ 1 (.int .i64 0), (hbel.setCell (by simp) _).setCell (by simp) _⟩
          | exact ⟨2, by omega, rfl, (E1.far (by simp) _).far (by simp) _, by simpa [dirCells, newN] using (E2.set_ 2 (.int .i64 (-1))).set_ 3 (.int .i64 0), (hbel.setCell (by simp) _).setCell (by simp) _⟩
          | exact ⟨3, by omega, rfl, (E1.far (by simp) _).far (by simp) _, by simpa [dirCells, newN] using (E2.set_ 4 (.int .i64 (-1))).set_ 5 (.int .i64 0), (hbel.setCell (by simp) _).setCell (by simp) _⟩
          | exact ⟨4, by omega, rfl, (E1.far (by simp) _).far (by simp) _, by simpa [dirCells, newN] using (E2.set_ 6 (.int .i64 (-1))).set_ 7 (.int .i64 0), (hbel.setCell (by simp) _).setCell (by simp) _⟩
        case measure => simp [intOf]
    · obtain ⟨c0, c1, c2, c3, c4, c5, c6, c7⟩ := dirBlk E2
      obtain ⟨b0, b1, b2, b3, b4, b5, b6, b7⟩ := dirBlk E1
      have gf := E1.frozen
      simp [newN] at c0 c2 c4 c6
      go_wp2
      exact bodyPost_ret (v := .agg (dirCells (fun _ => -1) (fun _ => 0))) (by simp [results, Tryd.results8, go_sem, dirCells, *]) rfl ⟨rfl, by repeat (first | with_reducible exact hbel | refine Below.setCell ?_ (by simp) _)⟩

end Go.Proofs.YtogeeaplepiijaaDoor
