/- '==' of two windows. -/
import Derived.Test.YtogeeaplepiijaaWin
import Derived.Laws.StructEq
import Derived.ChangeKeysEq
namespace Go.Proofs.Ytogeeaplepiijaa
open Go.RowKit

/-- a window is stored over another one -/
def put9 (w : World) (g : Nat) (v : Int) (q : Nat → Bool) : World :=
  ((((((((w.setCell ⟨g, 0, none⟩ (.int .i64 v)).setCell ⟨g, 1, none⟩ (.bool (q 0))).setCell ⟨g, 2, none⟩ (.bool (q 1))).setCell ⟨g, 3, none⟩ (.bool (q 2))).setCell ⟨g, 4, none⟩ (.bool (q 3))).setCell ⟨g, 5, none⟩ (.bool (q 4))).setCell ⟨g, 6, none⟩ (.bool (q 5))).setCell ⟨g, 7, none⟩ (.bool (q 6))).setCell ⟨g, 8, none⟩ (.bool (q 7))
theorem put9_eq (w : World) (g : Nat) (v : Int) (q : Nat → Bool) :
  ((((((((w.setCell ⟨g, 0, none⟩ (.int .i64 v)).setCell ⟨g, 1, none⟩ (.bool (q 0))).setCell ⟨g, 2, none⟩ (.bool (q 1))).setCell ⟨g, 3, none⟩ (.bool (q 2))).setCell ⟨g, 4, none⟩ (.bool (q 3))).setCell ⟨g, 5, none⟩ (.bool (q 4))).setCell ⟨g, 6, none⟩ (.bool (q 5))).setCell ⟨g, 7, none⟩ (.bool (q 6))).setCell ⟨g, 8, none⟩ (.bool (q 7)) = put9 w g v q := rfl
theorem put9_blk {w : World} {g : Nat} {t : TypeId} {top : Int} {f : Nat → Bool} (h : Blk w g t (winCells top f)) (v : Int) (q : Nat → Bool) : Blk (put9 w g v q) g t (winCells v q) := by
  have := ((((((((h.set_ 0 (.int .i64 v)).set_ 1 (.bool (q 0))).set_ 2 (.bool (q 1))).set_ 3 (.bool (q 2))).set_ 4 (.bool (q 3))).set_ 5 (.bool (q 4))).set_ 6 (.bool (q 5))).set_ 7 (.bool (q 6))).set_ 8 (.bool (q 7))
  simpa [winCells, put9] using this
theorem put9_below {B : Nat} {a w : World} (h : Below B a w) {g : Nat} (hg : B ≤ g) (v : Int) (q : Nat → Bool) : Below B a (put9 w g v q) :=
  ((((((((h.setCell (p := ⟨g, 0, none⟩) hg _).setCell (p := ⟨g, 1, none⟩) hg _).setCell (p := ⟨g, 2, none⟩) hg _).setCell (p := ⟨g, 3, none⟩) hg _).setCell (p := ⟨g, 4, none⟩) hg _).setCell (p := ⟨g, 5, none⟩) hg _).setCell (p := ⟨g, 6, none⟩) hg _).setCell (p := ⟨g, 7, none⟩) hg _).setCell (p := ⟨g, 8, none⟩) hg _

theorem put9_far {w : World} {g g' : Nat} {t : TypeId} {cs : Array Value} (h : Blk w g' t cs) (hg : g' ≠ g) (v : Int) (q : Nat → Bool) : Blk (put9 w g v q) g' t cs :=
  ((((((((h.far (p := ⟨g, 0, none⟩) hg _).far (p := ⟨g, 1, none⟩) hg _).far (p := ⟨g, 2, none⟩) hg _).far (p := ⟨g, 3, none⟩) hg _).far (p := ⟨g, 4, none⟩) hg _).far (p := ⟨g, 5, none⟩) hg _).far (p := ⟨g, 6, none⟩) hg _).far (p := ⟨g, 7, none⟩) hg _).far (p := ⟨g, 8, none⟩) hg _

theorem put9_own {w : World} {base : Nat} {e : TypeId} {size : Nat} {u : Value} {n : Nat} {xs : List Value} {g : Nat} (h : w.ownsRow base e size u n xs) (hg : u.ownBlock ≠ some g) (v : Int) (q : Nat → Bool) : (put9 w g v q).ownsRow base e size u n xs :=
  ownsRow_setCell_other (a := ⟨g, 8, none⟩) (ownsRow_setCell_other (a := ⟨g, 7, none⟩) (ownsRow_setCell_other (a := ⟨g, 6, none⟩) (ownsRow_setCell_other (a := ⟨g, 5, none⟩) (ownsRow_setCell_other (a := ⟨g, 4, none⟩) (ownsRow_setCell_other (a := ⟨g, 3, none⟩)
    (ownsRow_setCell_other (a := ⟨g, 2, none⟩) (ownsRow_setCell_other (a := ⟨g, 1, none⟩) (ownsRow_setCell_other (a := ⟨g, 0, none⟩) h hg _) hg _) hg _) hg _) hg _) hg _) hg _) hg _) hg _

theorem bools_eql (d : Nat) (a0 a1 a2 a3 a4 a5 a6 a7 b0 b1 b2 b3 b4 b5 b6 b7 : Bool) (w : World) :
    (Op.equalIn (d + 3) 45 (.agg #[.bool a0, .bool a1, .bool a2, .bool a3, .bool a4, .bool a5, .bool a6, .bool a7]) (.agg #[.bool b0, .bool b1, .bool b2, .bool b3, .bool b4, .bool b5, .bool b6, .bool b7])).run Try.prog w =
      .ok (a0 == b0 && a1 == b1 && a2 == b2 && a3 == b3 && a4 == b4 && a5 == b5 && a6 == b6 && a7 == b7) w := by
  have hi : ∃ i, Try.prog.info? 4 = some i := by
    have h : (Try.prog.info? 4).map (·.size) = some 1 := by kernel_rfl
    cases hh : Try.prog.info? 4 with
    | none => rw [hh] at h; cases h
    | some i => exact ⟨i, rfl⟩
  obtain ⟨i, hi⟩ := hi
  have hc : Try.prog.cellsOf 4 = 1 := by kernel_rfl
  rw [run_equalIn_array w (d + 2) _ _ Try.underlying45 hi]
  simp [go_sem, Op.eqItems, hc]
  repeat' split
  all_goals simp_all

theorem win_eql (u : Int) (a0 a1 a2 a3 a4 a5 a6 a7 : Bool) (v : Int) (b0 b1 b2 b3 b4 b5 b6 b7 : Bool) (w : World) :
    (binOp .eql 47 (.agg #[.int .i64 u, .bool a0, .bool a1, .bool a2, .bool a3, .bool a4, .bool a5, .bool a6, .bool a7]) (.agg #[.int .i64 v, .bool b0, .bool b1, .bool b2, .bool b3, .bool b4, .bool b5, .bool b6, .bool b7])).run Try.prog w =
      .ok (.bool (u == v && (a0 == b0 && a1 == b1 && a2 == b2 && a3 == b3 && a4 == b4 && a5 == b5 && a6 == b6 && a7 == b7))) w := by
  have h1 : Try.prog.underlying 47 = some (.struct (Try.prog.fieldsOf 47)) := by kernel_rfl
  have h2 : Try.prog.stoodInHeld 47 = false := by kernel_rfl
  have hb := fun w => bools_eql 9996 a0 a1 a2 a3 a4 a5 a6 a7 b0 b1 b2 b3 b4 b5 b6 b7 w
  rw [run_eql_struct, run_equalIn_struct _ _ _ _ _ h1 h2]
  generalize hc : (a0 == b0 && a1 == b1 && a2 == b2 && a3 == b3 && a4 == b4 && a5 == b5 && a6 == b6 && a7 == b7) = c at *
  clear hc
  simp [go_sem, hb]
  by_cases h : u = v <;> cases c <;> simp [h]

end Go.Proofs.Ytogeeaplepiijaa
