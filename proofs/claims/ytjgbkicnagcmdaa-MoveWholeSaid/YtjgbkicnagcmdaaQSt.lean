/- Queues: the contracts over 'St'. -/
import Derived.Test.YtjgbkicnagcmdaaStT
import Derived.Test.YtjgbkicnagcmdaaPlayed
import Derived.Test.YtjgbkicnagcmdaaCount
import Derived.Test.YtjgbkicnagcmdaaPlLaw
namespace Go.Proofs.Ytjgbkicnagcmdaa
open Go.RowKit

theorem ev_zero : (Try.prog.info? 37).bind (·.zero) = some (.agg #[.int .i64 0, .int .i64 0, .int .i64 0, .int .i64 0, .int .i64 0, .int .i64 0]) := by kernel_rfl
/-- the cells of a queue -/
def qArr (q : QM) (A1 : Option Addr) (c1 : Nat) (A2 : Option Addr) (c2 : Nat) : Array Value := qCells q.ep q.nx q.gv (.slice A1 q.rd.length c1) (.slice A2 q.ls.length c2) q.t (fun i => shows (q.t i) (q.S i))
def rdIt (q : QM) (A : Option Addr) : It := .rd 2 A q.rd.length (msgCells q.rd)
def lsIt (q : QM) (A : Option Addr) : It := .rd 4 A q.ls.length (lsCells q.ep q.ls)
def evIt (A : Option Addr) (es : List Ev) : It := .rd 6 A es.length (qevCells es)
def anIt (A : Option Addr) (l : List QA) : It := .rd 4 A l.length (qansCells l)
theorem do_st {w0 w : World} {I : List It} (q : QM) (e : Ev) {A1 A2 : Option Addr} {c1 c2 : Nat} (H : St w0 w I) [h1 : Has I (rdIt q A1)] [h2 : Has I (lsIt q A2)]
    (hi : q.Inv) (hr : q.Room 1) (he : e.check = 0) (hc1 : q.rd.length ≤ c1) (hc2 : q.ls.length ≤ c2) :
    Calls Try.prog 20 #[.agg (qArr q A1 c1 A2 c2), e.val] w (fun ed w' => ∃ B1 d1 B2 d2, ed = .returned (.tuple #[.agg (qArr (q.step e).1 B1 d1 B2 d2), (q.step e).2.1.val, .bool (q.step e).2.2, .int .i64 0]) ∧ (q.step e).1.rd.length ≤ d1 ∧ (q.step e).1.ls.length ≤ d2 ∧
      St w0 w' (rdIt (q.step e).1 B1 :: lsIt (q.step e).1 B2 :: I)) := by
  have r1 : Reads w w.heap.size 2 A1 q.rd.length (msgCells q.rd) := H.get (rdIt q A1)
  have r2 : Reads w w.heap.size 4 A2 q.ls.length (lsCells q.ep q.ls) := H.get (lsIt q A2)
  have hv : QIs w 0 w.heap.size q (.agg (qArr q A1 c1 A2 c2)) := ⟨A1, c1, A2, c2, rfl, hc1, hc2, r1, r2, fun _ _ => Nat.zero_le _, fun _ _ => Nat.zero_le _⟩
  refine (do_any q e _ 0 w.heap.size w hi hr he hv (Nat.le_refl _)).mono fun ed w' h => ?_
  obtain ⟨v', rfl, ⟨B1, d1, B2, d2, rfl, k1, k2, s1, s2, f1, f2⟩, hb⟩ := h
  refine ⟨B1, d1, B2, d2, rfl, k1, k2, H.newRds [rdIt (q.step e).1 B1, lsIt (q.step e).1 B2] hb fun y hy => ?_⟩
  rcases List.mem_cons.1 hy with rfl | hy
  · exact ⟨_, _, _, _, rfl, s1, f1⟩
  · rw [List.mem_singleton.1 hy]
    exact ⟨_, _, _, _, rfl, s2, f2⟩
/-- a variable that holds a queue -/
def QAt (w0 w : World) (g : Nat) (q : QM) : Prop := ∃ B1 d1 B2 d2, q.rd.length ≤ d1 ∧ q.ls.length ≤ d2 ∧ St w0 w [.bl g 46 (qArr q B1 d1 B2 d2), rdIt q B1, lsIt q B2]
def lenAt (w : World) (g j : Nat) : Nat := match w.cell? ⟨g, j, none⟩ with | some (.slice _ n _) => n | _ => 0
theorem qArr_at (q : QM) (A1 : Option Addr) (c1 : Nat) (A2 : Option Addr) (c2 : Nat) :
    (qArr q A1 c1 A2 c2)[0]? = some (.int .i64 q.ep) ∧ (qArr q A1 c1 A2 c2)[1]? = some (.int .i64 q.nx) ∧ (qArr q A1 c1 A2 c2)[2]? = some (.int .i64 q.gv) ∧ (qArr q A1 c1 A2 c2)[3]? = some (.slice A1 q.rd.length c1) ∧ (qArr q A1 c1 A2 c2)[4]? = some (.slice A2 q.ls.length c2) := ⟨rfl, rfl, rfl, rfl, rfl⟩

end Go.Proofs.Ytjgbkicnagcmdaa
