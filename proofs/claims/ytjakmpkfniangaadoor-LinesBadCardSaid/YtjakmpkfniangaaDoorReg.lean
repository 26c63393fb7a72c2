/- Regions in whatever order: one operation at a time; whole rows. No program in sight. -/
import Derived.Test.YtjakmpkfniangaaDoorMem
import Derived.Deep.RegionHeld3
import Derived.Laws.Rows
import Derived.Laws.Tables
namespace Go.Proofs.YtjakmpkfniangaaDoor
open Go.RowKit

section
variable {P : Program} {l : List Oper} {Q : Exit → Act → World → Prop} {md : Region.Mode} {S : World → Prop}

theorem at_of_drop {i : Nat} {oi : Oper} {rest : List Oper} (hi : l.drop i = oi :: rest) : l.toArray[i]? = some oi := by
  have h : (l.drop i)[0]? = some oi := by rw [hi]; rfl
  simpa using h

/-- Operation number i is taken first. -/
theorem takeH {i fuel : Nat} {oi : Oper} {rest : List Oper} {v : Value} {listed : Array Bool} {a : Act} {w : World} (hi : l.drop i = oi :: rest)
    (hs : Region.noSelect l.toArray = true) (hf : Region.free md l.toArray listed i = true) (hr : (Region.ready md l.toArray listed).contains i = true)
    (hQ : ∀ c a w, Q (.panic c) (a.put oi.dst v) w → Q (.panic c) a w) (hy : YieldsIf P l.toArray S oi v a) (hS : S w)
    (h : wpAnyH P md l.toArray Q S fuel (listed.setIfInBounds i true) (a.put oi.dst v) w) : wpAnyH P md l.toArray Q S (fuel + 1) listed a w :=
  wpAnyH_take (at_of_drop hi) hs hf hr hQ hy hS h

/-- Operation number i alone may come up. -/
theorem oneH {i fuel : Nat} {oi : Oper} {rest : List Oper} {listed : Array Bool} {a : Act} {w : World} (hi : l.drop i = oi :: rest) (hr : Region.ready md l.toArray listed = [i]) (hg : oi.guard = none)
    (h : ∀ K' : Act → World → Prop, (∀ a w, S w → (S w → wpAnyH P md l.toArray Q S fuel (listed.setIfInBounds i true) a w) → K' a w) → Oper.wp P oi a w K' Q) : wpAnyH P md l.toArray Q S (fuel + 1) listed a w :=
  wpAnyH_ready hr (by simp) (AllReadyH.cons (at_of_drop hi) (fun K' hK => by
    rw [if_pos (by simp [Region.wanted, hg])]
    exact h K' hK.out) AllReadyH.nil)
end

section
variable {P : Program} {ops : Array Oper} {S : World → Prop}
/-- a whole row is read -/
theorem yieldsIf_load_row {op : Oper} {a : Act} (hw : Region.wanted op (yielded ops a.tmps) = true) (ty : TypeId) (x : Operand) (ho : op.op = .load ty x)
    (g : Nat) (hx : a.eval x = .pointer (some ⟨g, 0, none⟩)) (t : TypeId) (cs : Array Value) (d : TypeDesc) (hS : ∀ w, S w → Blk w g t cs)
    (hu : P.underlying ty = some d) (hd : (match d with | .struct _ | .array _ _ => true | _ => false) = true) (hi : (P.info? ty).map (·.size) = some cs.size) : YieldsIf P ops S op (.agg cs) a :=
  .inl ⟨hw, fun w h => by
    have hr := run_loadVar_row w g t ty cs (0, 0) d (hS w h) hu hd hi
    unfold execOp
    simp only [ho, hx, Instr.loadAt, Instr.sureAddr, Sem.run_bind, Sem.run_pure, Result.andThen_ok, hr]⟩
end

theorem Blk.setRow_ {w : World} {g : Nat} {t : TypeId} {old cs : Array Value} (h : Blk w g t old) : Blk (w.setRow g cs) g t cs := setRow_heap w g old cs t (0, 0) h
theorem Blk.setRow_far {w : World} {g g' : Nat} {t : TypeId} {cs ds : Array Value} (h : Blk w g' t cs) (hne : g' ≠ g) : Blk (w.setRow g ds) g' t cs := (setRow_other w g g' ds hne).trans h
theorem below_setRow {B g : Nat} {a w : World} {cs : Array Value} (h : Below B a w) (hg : B ≤ g) : Below B a (w.setRow g cs) := h.trans ⟨rfl, rfl, rfl, by simp, fun k hk => setRow_other _ _ _ _ (by omega)⟩

end Go.Proofs.YtjakmpkfniangaaDoor
