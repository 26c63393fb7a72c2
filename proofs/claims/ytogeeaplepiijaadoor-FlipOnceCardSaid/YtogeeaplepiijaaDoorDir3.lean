/- The directory: Make, Flip. -/
import Derived.Test.YtogeeaplepiijaaDoorDir2
namespace Go.Proofs.YtogeeaplepiijaaDoor
open Go.RowKit

def upd (f : Nat → Int) (k : Nat) (v : Int) (j : Nat) : Int := if j = k then v else f j

theorem placeOk_upd {n e : Nat → Int} (h : ∀ k, k < 4 → PlaceOk (n k) (e k)) (k : Nat) (a b : Int) (hp : PlaceOk a b) : ∀ j, j < 4 → PlaceOk (upd n k a j) (upd e k b j) := by
  intro j hj
  unfold upd
  split
  · exact hp
  · exact h j hj

theorem place_neq (a b c d : Int) (w : World) :
    (binOp .neq 24 (.agg #[.int .i64 a, .int .i64 b]) (.agg #[.int .i64 c, .int .i64 d])).run Tryd.prog w = .ok (.bool (!(a == c && b == d))) w := by
  have h1 : Tryd.prog.underlying 24 = some (.struct (Tryd.prog.fieldsOf 24)) := by kernel_rfl
  have h2 : Tryd.prog.stoodInHeld 24 = false := by kernel_rfl
  rw [run_neq_struct, run_equalIn_struct _ _ _ _ _ h1 h2]
  simp [go_sem]
  repeat' split
  all_goals simp_all

set_option maxRecDepth 100000 in
set_option maxHeartbeats 4000000 in
theorem dmake_yes (n e : Nat → Int) (k : Nat) (q node : Int) (w : World) (hw : Nowhere w) (h : ∀ k, k < 4 → PlaceOk (n k) (e k)) (hk : k < 4) (hq : q = k) (h0 : n k = -1) (h1 : 0 ≤ node) (h2 : node ≤ 4) :
    Calls Tryd.prog 7 #[.agg (dirCells n e), .int .i64 q, .int .i64 node] w (Puts2 w (.agg (dirCells (upd n k node) (upd e k 1))) (.int .i64 0)) := by
  have C := fun W hW => Lib.hid (dask_ok n e k q W hW h hk hq)
  have hg : Tryd.prog.eqGuardType Tryd.prog.depth 24 = false := by kernel_rfl
  have hpq := place_neq
  have hp := h k hk
  unfold PlaceOk at hp
  have hb : e k = 0 := by omega
  rw [h0, hb] at C
  subst hq
  clear h hp hb h0
  go_enter Tryd.func7, Tryd.ntmps7
  unfold dirCells
  go_wp2_with fail
  refine (C _ (hw.below (((Below.refl w.heap.size w).alloc (Nat.le_refl _) _).alloc (by simp) _) hw.pos)).out.mono ?_
  rintro e' w1 ⟨rfl, hb⟩
  have E1 := ((Blk.new w 27 (dirCells n e)).alloc (.cells (dirCells (fun _ => 0) (fun _ => 0)) 27)).below hb (by simp; omega)
  have E2 := (Blk.new (w.alloc (.cells (dirCells n e) 27)) 27 (dirCells (fun _ => 0) (fun _ => 0))).below hb (by simp)
  rw [World.size_alloc] at E2
  have hbel : Below w.heap.size w w1 := (((Below.refl _ _).alloc (Nat.le_refl _) _).alloc (by simp) _).trans (hb.mono (by simp; omega))
  have hn := hw.below hbel hw.pos
  have y0 := hn.c0
  have y1 := hn.c1
  have yp := hn.pos
  obtain ⟨c0, c1, c2, c3, c4, c5, c6, c7⟩ := dirBlk E1
  obtain ⟨b0, b1, b2, b3, b4, b5, b6, b7⟩ := dirBlk E2
  have g1 := E1.frozen
  have g2 := E2.frozen
  have z1 := E1.lt
  have z2 := E2.lt
  have hne : ¬ w.heap.size = w1.heap.size := by omega
  have hne2 : ¬ w.heap.size + 1 = w1.heap.size := by omega
  clear hb C
  rcases (show k = 0 ∨ k = 1 ∨ k = 2 ∨ k = 3 by omega) with rfl | rfl | rfl | rfl
  · go_wp2
    exact bodyPost_ret (v := .tuple #[.agg (dirCells (upd n 0 node) (upd e 0 1)), .int .i64 0]) (by simp [results, Tryd.results7, go_sem, dirCells, upd, *]) rfl ⟨rfl, by (repeat' (first | with_reducible exact hbel | with_reducible refine Below.setCell ?_ ?_ _ | with_reducible refine Below.alloc ?_ ?_ _ | with_reducible refine Below.drew ?_)) <;> (simp [World.setCell] <;> omega)⟩
  · go_wp2
    exact bodyPost_ret (v := .tuple #[.agg (dirCells (upd n 1 node) (upd e 1 1)), .int .i64 0]) (by simp [results, Tryd.results7, go_sem, dirCells, upd, *]) rfl ⟨rfl, by (repeat' (first | with_reducible exact hbel | with_reducible refine Below.setCell ?_ ?_ _ | with_reducible refine Below.alloc ?_ ?_ _ | with_reducible refine Below.drew ?_)) <;> (simp [World.setCell] <;> omega)⟩
  · go_wp2
    exact bodyPost_ret (v := .tuple #[.agg (dirCells (upd n 2 node) (upd e 2 1)), .int .i64 0]) (by simp [results, Tryd.results7, go_sem, dirCells, upd, *]) rfl ⟨rfl, by (repeat' (first | with_reducible exact hbel | with_reducible refine Below.setCell ?_ ?_ _ | with_reducible refine Below.alloc ?_ ?_ _ | with_reducible refine Below.drew ?_)) <;> (simp [World.setCell] <;> omega)⟩
  · go_wp2
    exact bodyPost_ret (v := .tuple #[.agg (dirCells (upd n 3 node) (upd e 3 1)), .int .i64 0]) (by simp [results, Tryd.results7, go_sem, dirCells, upd, *]) rfl ⟨rfl, by (repeat' (first | with_reducible exact hbel | with_reducible refine Below.setCell ?_ ?_ _ | with_reducible refine Below.alloc ?_ ?_ _ | with_reducible refine Below.drew ?_)) <;> (simp [World.setCell] <;> omega)⟩

set_option maxRecDepth 100000 in
set_option maxHeartbeats 4000000 in
theorem dmake_twice (n e : Nat → Int) (k : Nat) (q node : Int) (w : World) (hw : Nowhere w) (h : ∀ k, k < 4 → PlaceOk (n k) (e k)) (hk : k < 4) (hq : q = k) (h0 : 0 ≤ n k) (h1 : 0 ≤ node) (h2 : node ≤ 4) :
    Calls Tryd.prog 7 #[.agg (dirCells n e), .int .i64 q, .int .i64 node] w (Puts2 w (.agg (dirCells (fun _ => 0) (fun _ => 0))) (.int .i64 8)) := by
  have C := fun W hW => Lib.hid (dask_ok n e k q W hW h hk hq)
  have hg : Tryd.prog.eqGuardType Tryd.prog.depth 24 = false := by kernel_rfl
  have hpq := place_neq
  have q1 : (n k == -1) = false := beq_eq_false_iff_ne.2 (by omega)
  generalize n k = a at *
  generalize e k = b at *
  subst hq
  clear h
  go_enter Tryd.func7, Tryd.ntmps7
  unfold dirCells
  go_wp2_with fail
  refine (C _ (hw.below (((Below.refl w.heap.size w).alloc (Nat.le_refl _) _).alloc (by simp) _) hw.pos)).out.mono ?_
  rintro e' w1 ⟨rfl, hb⟩
  have E1 := ((Blk.new w 27 (dirCells n e)).alloc (.cells (dirCells (fun _ => 0) (fun _ => 0)) 27)).below hb (by simp; omega)
  have E2 := (Blk.new (w.alloc (.cells (dirCells n e) 27)) 27 (dirCells (fun _ => 0) (fun _ => 0))).below hb (by simp)
  rw [World.size_alloc] at E2
  have hbel : Below w.heap.size w w1 := (((Below.refl _ _).alloc (Nat.le_refl _) _).alloc (by simp) _).trans (hb.mono (by simp; omega))
  have hn := hw.below hbel hw.pos
  have y0 := hn.c0
  have y1 := hn.c1
  have yp := hn.pos
  obtain ⟨c0, c1, c2, c3, c4, c5, c6, c7⟩ := dirBlk E1
  obtain ⟨b0, b1, b2, b3, b4, b5, b6, b7⟩ := dirBlk E2
  have g1 := E1.frozen
  have g2 := E2.frozen
  have z1 := E1.lt
  have z2 := E2.lt
  have hne : ¬ w.heap.size = w1.heap.size := by omega
  have hne2 : ¬ w.heap.size + 1 = w1.heap.size := by omega
  clear hb C
  go_wp2
  exact bodyPost_ret (v := .tuple #[.agg (dirCells (fun _ => 0) (fun _ => 0)), .int .i64 8]) (by simp [results, Tryd.results7, go_sem, dirCells, *]) rfl ⟨rfl, by (repeat' (first | with_reducible exact hbel | with_reducible refine Below.setCell ?_ ?_ _ | with_reducible refine Below.alloc ?_ ?_ _ | with_reducible refine Below.drew ?_)) <;> (simp [World.setCell] <;> omega)⟩

end Go.Proofs.YtogeeaplepiijaaDoor
