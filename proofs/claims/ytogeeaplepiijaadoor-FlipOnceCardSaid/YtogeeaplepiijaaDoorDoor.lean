/- The condition 'nowhere is laid' opened to the two cells of block 0. -/
import Derived.Test.YtogeeaplepiijaaDoorRows
import Derived.Test.YtogeeaplepiijaaDoorMem
import Derived.ProofKit
import Derived.LaidMore
import Derived.Deep.Fields
import Derived.Lib.SmallJoins
namespace Go.Proofs.YtogeeaplepiijaaDoor
open Go.ChangeShapes Go.WideShapes Go.ChangeAt Go.RowKit Go.Joins Go.Deep

theorem gNow : Tryd.prog.globalNamed "berthshift/directory.nowhere" = some 0 := by kernel_rfl
theorem tNow : (Tryd.prog.globals[0]?).map (·.type) = some 24 := by kernel_rfl

theorem of_laid {W : World} (h : laidMetH Tryd.prog [("berthshift/directory.nowhere", Rows.laid_berthshift_directory_nowhere)] W) :
    W.cell? ⟨0, 0, none⟩ = some (.int .i64 (-1)) ∧ W.cell? ⟨0, 1, none⟩ = some (.int .i64 0) := by
  rw [MakeChecks.laidMetH_plain _ _ _ (by kernel_rfl)] at h
  obtain ⟨ps, ⟨g0, t0, cs0, f0, p0, q0, hg0, ht0, hv0, hd0, _, _⟩, _, _⟩ := h
  obtain rfl := Option.some.inj (gNow.symm.trans hg0)
  obtain rfl := Option.some.inj (tNow.symm.trans ht0)
  have hone : oneCellFields Tryd.prog (Tryd.prog.fieldsOf 24) = true := by kernel_rfl
  have hund : Tryd.prog.underlying 24 = some (.struct (Tryd.prog.fieldsOf 24)) := by kernel_rfl
  obtain ⟨ys, n, hn, hy, hlen, hyl, hf⟩ := DataW.trod_struct hund hd0
  obtain ⟨o0, k0⟩ := hone_of hone 0 _ rfl
  obtain ⟨o1, k1⟩ := hone_of hone 1 _ rfl
  have h0 := hf 0 _ rfl
  have h1 := hf 1 _ rfl
  rw [o0, k0] at h0
  rw [o1, k1] at h1
  have c0 := World.var?_cell hg0 hv0 0
  have c1 := World.var?_cell hg0 hv0 1
  have hc2 : Tryd.prog.cellsOf 24 = 2 := by kernel_rfl
  have hs2 : (Tryd.prog.fieldsOf 24).size = 2 := by kernel_rfl
  have hi0 : ((Tryd.prog.fieldsOf 24)[0]).type = 3 := by kernel_rfl
  have hi1 : ((Tryd.prog.fieldsOf 24)[1]).type = 3 := by kernel_rfl
  rw [hc2] at hlen
  rw [hs2] at hyl
  obtain ⟨l⟩ := cs0
  obtain ⟨v0, v1, rfl⟩ : ∃ v0 v1, l = [v0, v1] := by
    match l, hlen with
    | [v0, v1], _ => exact ⟨v0, v1, rfl⟩
  obtain ⟨y0, y1, rfl⟩ : ∃ y0 y1, ys = [y0, y1] := by
    match ys, hyl with
    | [y0, y1], _ => exact ⟨y0, y1, rfl⟩
  simp only [List.drop_zero, List.drop_succ_cons, List.take_succ_cons, List.take_zero, List.getElem?_cons_zero, List.getElem?_cons_succ] at h0 h1
  rw [hi0] at h0
  rw [hi1] at h1
  obtain ⟨a, e0, e1, _⟩ := DataW.trod_int Tryd.underlying3 h0
  obtain ⟨b, e2, e3, _⟩ := DataW.trod_int Tryd.underlying3 h1
  simp only [List.cons.injEq, and_true] at e0 e2
  subst e0 e2 e1 e3
  simp [Rows.laid_berthshift_directory_nowhere] at hy
  obtain ⟨⟨rfl, rfl⟩, _⟩ := hy
  exact ⟨by simpa using c0, by simpa using c1⟩
end Go.Proofs.YtogeeaplepiijaaDoor
