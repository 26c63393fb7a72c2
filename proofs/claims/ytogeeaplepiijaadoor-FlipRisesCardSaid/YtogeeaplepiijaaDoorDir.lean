/- The directory: Check, ask, Where, New at directories that may be. -/
import Derived.Test.YtogeeaplepiijaaDoorMem
import Derived.Test.YtogeeaplepiijaaDoorChecked
import Derived.Laws.StructEq
import Derived.Deep.DeepCutAuto
namespace Go.Proofs.YtogeeaplepiijaaDoor
open Go.RowKit

/-- the cells of a directory: four places, node and epoch each -/
def dirCells (n e : Nat → Int) : Array Value := #[.int .i64 (n 0), .int .i64 (e 0), .int .i64 (n 1), .int .i64 (e 1), .int .i64 (n 2), .int .i64 (e 2), .int .i64 (n 3), .int .i64 (e 3)]

/-- the package's variable 'nowhere', as it is laid -/
structure Nowhere (w : World) : Prop where
  c0 : w.cell? ⟨0, 0, none⟩ = some (.int .i64 (-1))
  c1 : w.cell? ⟨0, 1, none⟩ = some (.int .i64 0)
theorem Nowhere.pos {w : World} (h : Nowhere w) : 0 < w.heap.size := by
  rcases Nat.lt_or_ge 0 w.heap.size with h' | h'
  · exact h'
  · have := h.c0
    unfold World.cell? at this
    rw [Array.getElem?_eq_none (by simpa using h')] at this
    simp at this
theorem Nowhere.below {w w' : World} (h : Nowhere w) {B : Nat} (hb : Below B w w') (hB : 0 < B) : Nowhere w' := ⟨(hb.cell (p := ⟨0, 0, none⟩) hB).trans h.c0, (hb.cell (p := ⟨0, 1, none⟩) hB).trans h.c1⟩

/-- a place that may be -/
def PlaceOk (n e : Int) : Prop := (n = -1 ∧ e = 0) ∨ (0 ≤ n ∧ n ≤ 4 ∧ 1 ≤ e ∧ e ≤ 1048576)

theorem place_eql (a b c d : Int) (w : World) :
    (binOp .eql 24 (.agg #[.int .i64 a, .int .i64 b]) (.agg #[.int .i64 c, .int .i64 d])).run Tryd.prog w = .ok (.bool (a == c && b == d)) w := by
  have h1 : Tryd.prog.underlying 24 = some (.struct (Tryd.prog.fieldsOf 24)) := by kernel_rfl
  have h2 : Tryd.prog.stoodInHeld 24 = false := by kernel_rfl
  rw [run_eql_struct, run_equalIn_struct _ _ _ _ _ h1 h2]
  simp [go_sem]
  repeat' split
  all_goals simp_all

theorem dirBlk {w : World} {g : Nat} {t : TypeId} {n e : Nat → Int} (h : Blk w g t (dirCells n e)) :
    w.cell? ⟨g, 0, none⟩ = some (.int .i64 (n 0)) ∧ w.cell? ⟨g, 1, none⟩ = some (.int .i64 (e 0)) ∧ w.cell? ⟨g, 2, none⟩ = some (.int .i64 (n 1)) ∧ w.cell? ⟨g, 3, none⟩ = some (.int .i64 (e 1)) ∧
      w.cell? ⟨g, 4, none⟩ = some (.int .i64 (n 2)) ∧ w.cell? ⟨g, 5, none⟩ = some (.int .i64 (e 2)) ∧ w.cell? ⟨g, 6, none⟩ = some (.int .i64 (n 3)) ∧ w.cell? ⟨g, 7, none⟩ = some (.int .i64 (e 3)) :=
  ⟨h.cell 0, h.cell 1, h.cell 2, h.cell 3, h.cell 4, h.cell 5, h.cell 6, h.cell 7⟩

/-- the call returns v, and nothing that was there has turned -/
def Puts (w : World) (v : Value) (e : Ending) (w' : World) : Prop := e = .returned v ∧ Below w.heap.size w w'
def Puts2 (w : World) (u v : Value) (e : Ending) (w' : World) : Prop := e = .returned (.tuple #[u, v]) ∧ Below w.heap.size w w'

set_option maxHeartbeats 2000000 in
theorem dcheck_ok (n e : Nat → Int) (w : World) (hw : Nowhere w) (h : ∀ k, k < 4 → PlaceOk (n k) (e k)) :
    Calls Tryd.prog 11 #[.agg (dirCells n e)] w (Puts w (.int .i64 0)) := by
  have hg : Tryd.prog.eqGuardType Tryd.prog.depth 24 = false := by kernel_rfl
  have hq := place_eql
  have HP := Lib.hid h
  clear h
  go_enter Tryd.func11, Tryd.ntmps11
  unfold dirCells
  go_wp2
  go_loopw [7] (fun i wr => ∃ k : Nat, k ≤ 4 ∧ i = .int .i64 k ∧ Below w.heap.size w wr) (fun i _ => 4 - (intOf i).toNat)
  case atStart => exact ⟨0, by omega, rfl, (Below.refl _ _).alloc (Nat.le_refl _) _⟩
  case round =>
    obtain ⟨k, hk, rfl, hbel⟩ := hrel
    have hn := hw.below hbel hw.pos
    have z0 := hn.c0
    have z1 := hn.c1
    have zp := hn.pos
    rcases (show k = 0 ∨ k = 1 ∨ k = 2 ∨ k = 3 ∨ k = 4 by omega) with rfl | rfl | rfl | rfl | rfl
    · obtain ⟨a, ha⟩ : ∃ a, n 0 = a := ⟨_, rfl⟩
      obtain ⟨b, hb⟩ : ∃ b, e 0 = b := ⟨_, rfl⟩
      have i0 : ∀ W : World, (Instr.index 25 (.agg #[.int .i64 (n 0), .int .i64 (e 0), .int .i64 (n 1), .int .i64 (e 1), .int .i64 (n 2), .int .i64 (e 2), .int .i64 (n 3), .int .i64 (e 3)]) (.int .i64 0)).run Tryd.prog W = .ok (.agg #[.int .i64 a, .int .i64 b]) W := fun _ => by rw [← ha, ← hb]; kernel_rfl
      have hp := HP.out 0 (by omega)
      rw [ha, hb] at hp
      clear ha hb
      rcases hp with ⟨rfl, rfl⟩ | ⟨p1, p2, p3, p4⟩
      · go_wp2
        go_roundw
        case rel => exact ⟨1, by omega, rfl, hbel.alloc hbel.size _⟩
        case measure => simp [intOf]
      · have q1 : (a == -1) = false := beq_eq_false_iff_ne.2 (by omega)
        go_wp2
        go_roundw
        case rel => exact ⟨1, by omega, rfl, hbel.alloc hbel.size _⟩
        case measure => simp [intOf]
    · obtain ⟨a, ha⟩ : ∃ a, n 1 = a := ⟨_, rfl⟩
      obtain ⟨b, hb⟩ : ∃ b, e 1 = b := ⟨_, rfl⟩
      have i0 : ∀ W : World, (Instr.index 25 (.agg #[.int .i64 (n 0), .int .i64 (e 0), .int .i64 (n 1), .int .i64 (e 1), .int .i64 (n 2), .int .i64 (e 2), .int .i64 (n 3), .int .i64 (e 3)]) (.int .i64 1)).run Tryd.prog W = .ok (.agg #[.int .i64 a, .int .i64 b]) W := fun _ => by rw [← ha, ← hb]; kernel_rfl
      have hp := HP.out 1 (by omega)
      rw [ha, hb] at hp
      clear ha hb
      rcases hp with ⟨rfl, rfl⟩ | ⟨p1, p2, p3, p4⟩
      · go_wp2
        go_roundw
        case rel => exact ⟨2, by omega, rfl, hbel.alloc hbel.size _⟩
        case measure => simp [intOf]
      · have q1 : (a == -1) = false := beq_eq_false_iff_ne.2 (by omega)
        go_wp2
        go_roundw
        case rel => exact ⟨2, by omega, rfl, hbel.alloc hbel.size _⟩
        case measure => simp [intOf]
    · obtain ⟨a, ha⟩ : ∃ a, n 2 = a := ⟨_, rfl⟩
      obtain ⟨b, hb⟩ : ∃ b, e 2 = b := ⟨_, rfl⟩
      have i0 : ∀ W : World, (Instr.index 25 (.agg #[.int .i64 (n 0), .int .i64 (e 0), .int .i64 (n 1), .int .i64 (e 1), .int .i64 (n 2), .int .i64 (e 2), .int .i64 (n 3), .int .i64 (e 3)]) (.int .i64 2)).run Tryd.prog W = .ok (.agg #[.int .i64 a, .int .i64 b]) W := fun _ => by rw [← ha, ← hb]; kernel_rfl
      have hp := HP.out 2 (by omega)
      rw [ha, hb] at hp
      clear ha hb
      rcases hp with ⟨rfl, rfl⟩ | ⟨p1, p2, p3, p4⟩
      · go_wp2
        go_roundw
        case rel => exact ⟨3, by omega, rfl, hbel.alloc hbel.size _⟩
        case measure => simp [intOf]
      · have q1 : (a == -1) = false := beq_eq_false_iff_ne.2 (by omega)
        go_wp2
        go_roundw
        case rel => exact ⟨3, by omega, rfl, hbel.alloc hbel.size _⟩
        case measure => simp [intOf]
    · obtain ⟨a, ha⟩ : ∃ a, n 3 = a := ⟨_, rfl⟩
      obtain ⟨b, hb⟩ : ∃ b, e 3 = b := ⟨_, rfl⟩
      have i0 : ∀ W : World, (Instr.index 25 (.agg #[.int .i64 (n 0), .int .i64 (e 0), .int .i64 (n 1), .int .i64 (e 1), .int .i64 (n 2), .int .i64 (e 2), .int .i64 (n 3), .int .i64 (e 3)]) (.int .i64 3)).run Tryd.prog W = .ok (.agg #[.int .i64 a, .int .i64 b]) W := fun _ => by rw [← ha, ← hb]; kernel_rfl
      have hp := HP.out 3 (by omega)
      rw [ha, hb] at hp
      clear ha hb
      rcases hp with ⟨rfl, rfl⟩ | ⟨p1, p2, p3, p4⟩
      · go_wp2
        go_roundw
        case rel => exact ⟨4, by omega, rfl, hbel.alloc hbel.size _⟩
        case measure => simp [intOf]
      · have q1 : (a == -1) = false := beq_eq_false_iff_ne.2 (by omega)
        go_wp2
        go_roundw
        case rel => exact ⟨4, by omega, rfl, hbel.alloc hbel.size _⟩
        case measure => simp [intOf]
    · go_wp2
      go_ret
      exact ⟨rfl, hbel⟩

set_option maxHeartbeats 1000000 in
theorem dask_ok (n e : Nat → Int) (k : Nat) (q : Int) (w : World) (hw : Nowhere w) (h : ∀ k, k < 4 → PlaceOk (n k) (e k)) (hk : k < 4) (hq : q = k) :
    Calls Tryd.prog 12 #[.agg (dirCells n e), .int .i64 q] w (Puts2 w (.agg #[.int .i64 (n k), .int .i64 (e k)]) (.int .i64 0)) := by
  subst hq
  have C := fun W hW => Lib.hid (dcheck_ok n e W hW h)
  clear h
  go_enter Tryd.func12, Tryd.ntmps12
  unfold dirCells
  go_wp2_with fail
  refine (C _ (hw.below (((Below.refl w.heap.size w).alloc (Nat.le_refl _) _).alloc (by simp) _) hw.pos)).out.mono ?_
  rintro e' w1 ⟨rfl, hb⟩
  have E1 := ((Blk.new w 27 (dirCells n e)).alloc (.cells #[.int .i64 0, .int .i64 0] 24)).below hb (by simp; omega)
  have E2 := (Blk.new (w.alloc (.cells (dirCells n e) 27)) 24 #[.int .i64 0, .int .i64 0]).below hb (by simp)
  rw [World.size_alloc] at E2
  have hbel : Below w.heap.size w w1 := (((Below.refl _ _).alloc (Nat.le_refl _) _).alloc (by simp) _).trans (hb.mono (by simp; omega))
  obtain ⟨c0, c1, c2, c3, c4, c5, c6, c7⟩ := dirBlk E1
  have g0 := E2.cell
  have gf := E2.frozen
  have z1 := E1.lt
  have z2 := E2.lt
  clear hb C
  rcases (show k = 0 ∨ k = 1 ∨ k = 2 ∨ k = 3 by omega) with rfl | rfl | rfl | rfl
  all_goals
    go_wp2
    first
      | exact bodyPost_ret (v := .tuple #[.agg #[.int .i64 (n 0), .int .i64 (e 0)], .int .i64 0]) (by simp [results, Tryd.results12, go_sem, *]) rfl ⟨rfl, by repeat (first | with_reducible exact hbel | refine Below.setCell ?_ (by simp) _)⟩
      | exact bodyPost_ret (v := .tuple #[.agg #[.int .i64 (n 1), .int .i64 (e 1)], .int .i64 0]) (by simp [results, Tryd.results12, go_sem, *]) rfl ⟨rfl, by repeat (first | with_reducible exact hbel | refine Below.setCell ?_ (by simp) _)⟩
      | exact bodyPost_ret (v := .tuple #[.agg #[.int .i64 (n 2), .int .i64 (e 2)], .int .i64 0]) (by simp [results, Tryd.results12, go_sem, *]) rfl ⟨rfl, by repeat (first | with_reducible exact hbel | refine Below.setCell ?_ (by simp) _)⟩
      | exact bodyPost_ret (v := .tuple #[.agg #[.int .i64 (n 3), .int .i64 (e 3)], .int .i64 0]) (by simp [results, Tryd.results12, go_sem, *]) rfl ⟨rfl, by repeat (first | with_reducible exact hbel | refine Below.setCell ?_ (by simp) _)⟩

set_option maxHeartbeats 1000000 in
theorem dwhere_ok (n e : Nat → Int) (k : Nat) (q : Int) (w : World) (hw : Nowhere w) (h : ∀ k, k < 4 → PlaceOk (n k) (e k)) (hk : k < 4) (hq : q = k) (h0 : 0 ≤ n k) :
    Calls Tryd.prog 10 #[.agg (dirCells n e), .int .i64 q] w (Puts2 w (.agg #[.int .i64 (n k), .int .i64 (e k)]) (.int .i64 0)) := by
  have C := fun W hW => Lib.hid (dask_ok n e k q W hW h hk hq)
  have hg : Tryd.prog.eqGuardType Tryd.prog.depth 24 = false := by kernel_rfl
  have hpq := place_eql
  have q1 : (n k == -1) = false := beq_eq_false_iff_ne.2 (by omega)
  clear h hq
  generalize n k = a at *
  generalize e k = b at *
  go_enter Tryd.func10, Tryd.ntmps10
  unfold dirCells
  go_wp2_with fail
  refine (C _ (hw.below (((Below.refl w.heap.size w).alloc (Nat.le_refl _) _).alloc (by simp) _) hw.pos)).out.mono ?_
  rintro e' w1 ⟨rfl, hb⟩
  have E2 := (Blk.new (w.alloc (.cells (dirCells n e) 27)) 24 #[.int .i64 0, .int .i64 0]).below hb (by simp)
  rw [World.size_alloc] at E2
  have hbel : Below w.heap.size w w1 := (((Below.refl _ _).alloc (Nat.le_refl _) _).alloc (by simp) _).trans (hb.mono (by simp; omega))
  have hn := hw.below hbel hw.pos
  have y0 := hn.c0
  have y1 := hn.c1
  have yp := hn.pos
  have g0 := E2.cell
  have gf := E2.frozen
  have z2 := E2.lt
  clear hb C
  go_wp2
  exact bodyPost_ret (v := .tuple #[.agg #[.int .i64 a, .int .i64 b], .int .i64 0]) (by simp [results, Tryd.results10, go_sem, *]) rfl ⟨rfl, by repeat (first | with_reducible exact hbel | refine Below.setCell ?_ (by simp) _ | refine Below.alloc ?_ (by simp [World.setCell]; omega) _)⟩

end Go.Proofs.YtogeeaplepiijaaDoor
