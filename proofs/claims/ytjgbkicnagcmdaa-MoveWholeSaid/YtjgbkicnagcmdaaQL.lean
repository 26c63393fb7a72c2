/- Queues: words for the laws. -/
import Derived.Test.YtjgbkicnagcmdaaPlayed
import Derived.Test.YtjgbkicnagcmdaaCount
import Derived.BigFrame
namespace Go.Proofs.Ytjgbkicnagcmdaa
open Go.RowKit

theorem qwin_part (ep nx gv : Int) (vr vl : Value) (t : Nat → Int) (f : Nat → Nat → Bool) (p : Nat) (hp : p < 4) : (qCells ep nx gv vr vl t f).extract (5 + p * 9) (5 + p * 9 + 9) = winCells (t p) (f p) := by
  rcases (show p = 0 ∨ p = 1 ∨ p = 2 ∨ p = 3 by omega) with rfl | rfl | rfl | rfl <;> kernel_rfl
/-- a queue's cells -/
structure QCs (w : World) (lo B : Nat) (q : QM) (cs : Array Value) (A1 A2 : Option Addr) (c1 c2 : Nat) : Prop where
  size : cs.size = 41
  all : cs.all (·.oneCell') = true
  ep : cs[0]? = some (.int .i64 q.ep)
  nx : cs[1]? = some (.int .i64 q.nx)
  gv : cs[2]? = some (.int .i64 q.gv)
  rd : cs[3]? = some (.slice A1 q.rd.length c1)
  ls : cs[4]? = some (.slice A2 q.ls.length c2)
  win : ∀ p, p < 4 → cs.extract (5 + p * 9) (5 + p * 9 + 9) = winCells (q.t p) (shows (q.t p) (q.S p))
  r1 : Reads w B 2 A1 q.rd.length (msgCells q.rd)
  r2 : Reads w B 4 A2 q.ls.length (lsCells q.ep q.ls)
  le1 : q.rd.length ≤ c1
  le2 : q.ls.length ≤ c2
theorem QIs.parts {w : World} {lo B : Nat} {q : QM} {v : Value} (h : QIs w lo B q v) : ∃ cs A1 c1 A2 c2, v = .agg cs ∧ QCs w lo B q cs A1 A2 c1 c2 := by
  obtain ⟨A1, c1, A2, c2, rfl, h1, h2, h3, h4, _⟩ := h
  exact ⟨_, A1, c1, A2, c2, rfl, rfl, by kernel_rfl, rfl, rfl, rfl, rfl, rfl, fun p hp => qwin_part _ _ _ _ _ _ _ p hp, h3, h4, h1, h2⟩
/-- whatever the slices' places -/
theorem QIs.cells {w : World} {lo B : Nat} {q : QM} {cs : Array Value} (h : QIs w lo B q (.agg cs)) : ∃ A1 c1 A2 c2, QCs w lo B q cs A1 A2 c1 c2 := by
  obtain ⟨cs', A1, c1, A2, c2, e, h⟩ := h.parts
  cases e
  exact ⟨A1, c1, A2, c2, h⟩
/-- a variable that holds a queue -/
structure QVar (w : World) (g : Nat) (q : QM) : Prop where
  out : ∃ lo B cs, B ≤ w.heap.size ∧ g < w.heap.size ∧ Blk w g 46 cs ∧ QIs w lo B q (.agg cs) ∧ (g < lo ∨ B ≤ g)
theorem eqItems_self {P : Program} {w : World} (d : Nat) (e : TypeId) (c : Nat) (xs : Array Value) : ∀ is : List Nat, (∀ i ∈ is, ∃ v, (part e xs (i * c)).run P w = .ok v w ∧ (Op.equalIn d e v v).run P w = .ok true w) → (Op.eqItems d e c xs xs is).run P w = .ok true w
  | [], _ => by simp [Op.eqItems]
  | i :: is, h => by
    obtain ⟨v, h1, h2⟩ := h i (by simp)
    have h3 := eqItems_self d e c xs is (fun j hj => h j (List.mem_cons_of_mem _ hj))
    simp [Op.eqItems, Sem.run_bind, h1, h2, h3]
theorem seen_self (d : Nat) (f : Nat → Bool) (w : World) : (Op.equalIn (d + 2) 41 (.agg #[.bool (f 0), .bool (f 1), .bool (f 2), .bool (f 3), .bool (f 4), .bool (f 5), .bool (f 6), .bool (f 7)]) (.agg #[.bool (f 0), .bool (f 1), .bool (f 2), .bool (f 3), .bool (f 4), .bool (f 5), .bool (f 6), .bool (f 7)])).run Try.prog w = .ok true w := by
  have hi : Try.prog.info? 4 = some Try.t4 := by kernel_rfl
  rw [run_equalIn_array (P := Try.prog) w (d + 1) _ _ Try.underlying41 hi]
  refine eqItems_self _ _ _ _ _ fun i h => ?_
  have h8 : i < 8 := List.mem_range.1 h
  have hc : Try.prog.cellsOf 4 = 1 := by kernel_rfl
  rw [hc]
  refine ⟨.bool (f i), ?_, by simp [go_sem]⟩
  rcases (show i = 0 ∨ i = 1 ∨ i = 2 ∨ i = 3 ∨ i = 4 ∨ i = 5 ∨ i = 6 ∨ i = 7 by omega) with rfl | rfl | rfl | rfl | rfl | rfl | rfl | rfl <;> simp [part, go_sem]
theorem win_self (d : Nat) (top : Int) (f : Nat → Bool) (w : World) : (Op.equalIn (d + 3) 43 (.agg (winCells top f)) (.agg (winCells top f))).run Try.prog w = .ok true w := by
  have h1 : Try.prog.underlying 43 = some (.struct (Try.prog.fieldsOf 43)) := by kernel_rfl
  have h2 : Try.prog.stoodInHeld 43 = false := by kernel_rfl
  rw [run_equalIn_struct _ _ _ _ _ h1 h2]
  unfold winCells
  simp [go_sem, seen_self]
theorem win1_under : Try.prog.underlying 43 = some (.struct (Try.prog.fieldsOf 43)) := by kernel_rfl
theorem win1_size : (Try.prog.info? 43).map (·.size) = some 9 := by kernel_rfl
theorem win_eql_self (top : Int) (f : Nat → Bool) (w : World) : (binOp .eql 43 (.agg (winCells top f)) (.agg (winCells top f))).run Try.prog w = .ok (.bool true) w := by
  have h1 : Try.prog.underlying 43 = some (.struct (Try.prog.fieldsOf 43)) := by kernel_rfl
  have h2 : Try.prog.stoodInHeld 43 = false := by kernel_rfl
  have h3 := win_self 9997 top f w
  rw [run_eql_struct, h3]
  rfl

/-- .. at an operation under a guard -/
theorem wpList_load_partG {P : Program} {ops : Array Oper} {rest : List Oper} {o : Oper} {a : Act} {w : World} {Q : Exit → Act → World → Prop} (hw : Region.wanted o (yielded ops a.tmps) = true) (ty : TypeId) (x : Operand) (ho : o.op = .load ty x)
    (g p m : Nat) (hx : a.eval x = .pointer (some ⟨g, p, none⟩)) (t : TypeId) (cs : Array Value) (d : TypeDesc) (hg : Blk w g t cs)
    (hu : P.underlying ty = some d) (hd : (match d with | .struct _ | .array _ _ => true | _ => false) = true) (hi : (P.info? ty).map (·.size) = some m) (hm : p + m ≤ cs.size)
    (h : wpList P ops Q rest (a.put o.dst (.agg (cs.extract p (p + m)))) w) : wpList P ops Q (o :: rest) a w :=
  Go.BigFrame.wpList_want hw fun _ hK => wp_load_part ty x ho g p m hx t cs d hg hu hd hi hm (hK _ _ h)

end Go.Proofs.Ytjgbkicnagcmdaa
