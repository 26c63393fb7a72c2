/- Queues: 'played'. -/
import Derived.Test.YtjgbkicnagcmdaaQEnd
import Derived.Test.YtjgbkicnagcmdaaPl
import Derived.Test.YtjgbkicnagcmdaaRow
import Derived.Deep.RegionHeld3
namespace Go.Proofs.Ytjgbkicnagcmdaa
open Go.RowKit

theorem row4q {w : World} {B n k : Nat} {A : Option Addr} {rows : List (List Int)} (hl : rows.length = n) (hs : ∀ r ∈ rows, r.length = 4 ∧ ∀ z ∈ r, (Lit.int .i64 z).wf = true) (h : Reads w B 4 A n (rowCells rows)) (hk : k < n) :
    ∃ b off, A = some ⟨b, off, none⟩ ∧ b < B ∧ (∀ j, j < 4 → w.cell? ⟨b, off + (k * 4 + j), none⟩ = some (.int .i64 ((rows.getD k []).getD j 0))) ∧ ∀ j, Is64 ((rows.getD k []).getD j 0) := by
  obtain ⟨b, off, rfl, hb, hc⟩ := h.plain (by omega) (by omega)
  have hr : rows[k]? = some (rows.getD k []) := by rw [List.getElem?_eq_getElem (show k < rows.length by omega)]; simp [List.getD, List.getElem?_eq_getElem (show k < rows.length by omega)]
  have hmem : rows.getD k [] ∈ rows := List.mem_of_getElem? hr
  obtain ⟨h4, hz⟩ := hs _ hmem
  refine ⟨b, off, rfl, hb, fun j hj => ?_, fun j => ?_⟩
  · refine hc _ _ ?_
    rw [rowCells_at 4 rows (fun r hr => (hs r hr).1) k j _ hr hj]
    generalize rows.getD k [] = row at *
    rw [List.getElem?_eq_getElem (show j < row.length by omega)]
    simp [List.getD, List.getElem?_eq_getElem (show j < row.length by omega)]
  · generalize rows.getD k [] = row at *
    by_cases hj : j < 4
    · refine is64_of_wf (hz _ ?_)
      rw [List.getD, List.getElem?_eq_getElem (show j < row.length by omega)]
      simp
    · rw [List.getD, List.getElem?_eq_none (by omega)]
      simp [Is64]
theorem own_grownQ {w w' : World} {base size n : Nat} {e : TypeId} {v : Value} {xs : List Value} {row : Option Nat} (h : w.ownsRow base e size v n xs) (hg : w.grownBy w' row) (hne : ∀ g, v.ownBlock = some g → row ≠ some g) : w'.ownsRow base e size v n xs := by
  refine ⟨h.1, ?_⟩
  rcases h.2 with hn | ⟨g, cap, cur, rfl, hb, hh, r⟩
  · exact .inl hn
  · have hlt : g < w.heap.size := by
      rcases Nat.lt_or_ge g w.heap.size with h' | h'
      · exact h'
      · rw [Array.getElem?_eq_none h'] at hh; cases hh
    exact .inr ⟨g, cap, cur, rfl, hb, by rw [hg.block g hlt (fun h => hne g rfl h.symm)]; exact hh, r⟩
theorem own_row_neQ {w : World} {base base' size size' n m : Nat} {e e' : TypeId} {v u : Value} {xs ys : List Value} (h : w.ownsRow base e size v n xs) (k : w.ownsRow base' e' size' u m ys) (hne : e ≠ e') : ∀ g, v.ownBlock = some g → u.ownBlock ≠ some g := by
  intro g hv hu
  rcases h.2 with ⟨rfl, _⟩ | ⟨g1, cap, cur, rfl, _, h1, _⟩
  · cases hv
  · rcases k.2 with ⟨rfl, _⟩ | ⟨g2, cap2, cur2, rfl, _, h2, _⟩
    · cases hu
    · have e1 : g1 = g := by injection hv
      have e2 : g2 = g := by injection hu
      subst e1 e2
      rw [h1] at h2
      injection h2 with h2
      injection h2 with _ h2
      exact hne h2
theorem own_setRow {w : World} {base size n g : Nat} {e t : TypeId} {v : Value} {xs : List Value} {cs ds : Array Value} (h : w.ownsRow base e size v n xs) (hg : Blk w g t cs) (hne : e ≠ t) : (w.setRow g ds).ownsRow base e size v n xs :=
  own_grownQ h (row := some g) ⟨rfl, rfl, rfl, by simp, fun k _ hk => setRow_other _ _ _ _ (fun e => hk (by rw [e]))⟩ fun k hk h' => own_blk_ne h hg hne (hk.trans (by rw [← h']))

theorem q_zero : (Try.prog.info? 46).bind (·.zero) = some (.agg (qCells 0 0 0 (.slice none 0 0) (.slice none 0 0) (fun _ => 0) (fun _ _ => false))) := by kernel_rfl
theorem ans_zero : (Try.prog.info? 50).bind (·.zero) = some (.agg #[.int .i64 0, .int .i64 0, .int .i64 0, .int .i64 0]) := by kernel_rfl
/-- what holds ahead of a round of 'played' -/
structure PS (w : World) (p : PL) (ve va : Value) (wr : World) : Prop where
  res : ∃ cs, Blk wr w.heap.size 46 cs ∧ cs.size = 41
  q : ∃ lo cs, w.heap.size + 1 < lo ∧ Blk wr (w.heap.size + 1) 46 cs ∧ cs.size = 41 ∧ QIs wr lo wr.heap.size p.q (.agg cs)
  es : wr.ownsRow w.heap.size 37 6 ve p.es.length (qevCells p.es)
  ans : wr.ownsRow w.heap.size 50 4 va p.ans.length (qansCells p.ans)
  bel : Below w.heap.size w wr
theorem PS.lt {w wr : World} {p : PL} {ve va : Value} (h : PS w p ve va wr) : w.heap.size + 1 < wr.heap.size := by
  obtain ⟨lo, cs, _, hb, _⟩ := h.q
  exact hb.lt
theorem PS.below {w wr w' : World} {p : PL} {ve va : Value} (h : PS w p ve va wr) (hb : Below wr.heap.size wr w') : PS w p ve va w' := by
  have hlt := h.lt
  obtain ⟨⟨c1, r1, r2⟩, ⟨lo, c2, q0, q1, q2, q3⟩, es, as', bel⟩ := h
  exact ⟨⟨c1, r1.below hb r1.lt, r2⟩, ⟨lo, c2, q0, q1.below hb q1.lt, q2, (q3.below hb).more hb.size⟩, own_below es hb (Nat.le_refl _), own_below as' hb (Nat.le_refl _), bel.trans (hb.mono bel.size)⟩
def PlayedPost (w : World) (p : PL) (e : Ending) (w' : World) : Prop :=
  ∃ v ve va lo, e = .returned (.tuple #[v, ve, va, .bool true]) ∧ QIs w' lo w'.heap.size p.q v ∧ w'.ownsRow w.heap.size 37 6 ve p.es.length (qevCells p.es) ∧ w'.ownsRow w.heap.size 50 4 va p.ans.length (qansCells p.ans) ∧ Below w.heap.size w w' ∧ w.heap.size ≤ lo
theorem qcheck_is (q : QM) (v : Value) (lo B : Nat) (w : World) (hi : q.Inv) (hr : q.Room 0) (hv : QIs w lo B q v) (hB : B ≤ w.heap.size) : Calls Try.prog 37 #[v] w (Puts w (.int .i64 0)) := by
  obtain ⟨A1, c1, A2, c2, rfl, h1, h2, h3, h4, _⟩ := hv
  exact qcheck_ok q.ep q.nx q.gv q.rd q.ls q.t q.S A1 A2 _ _ c1 c2 B w (hi.ok hr) rfl rfl h3 h4 hB
theorem ev_info : (Try.prog.info? 37).map (fun i => (i.zero, i.size, i.bytes)) = some (some (.agg #[.int .i64 0, .int .i64 0, .int .i64 0, .int .i64 0, .int .i64 0, .int .i64 0]), 6, 48) := by kernel_rfl
theorem ans_info : (Try.prog.info? 50).map (fun i => (i.zero, i.size, i.bytes)) = some (some (.agg #[.int .i64 0, .int .i64 0, .int .i64 0, .int .i64 0]), 4, 32) := by kernel_rfl

end Go.Proofs.Ytjgbkicnagcmdaa
