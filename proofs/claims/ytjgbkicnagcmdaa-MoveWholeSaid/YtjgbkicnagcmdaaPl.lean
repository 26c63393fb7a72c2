/- Queues: what 'played' makes (plain), queues in memory. -/
import Derived.Test.YtjgbkicnagcmdaaQStep
import Derived.Test.YtjgbkicnagcmdaaEvt
namespace Go.Proofs.Ytjgbkicnagcmdaa
open Go.RowKit

def qevRow (e : Ev) : List Int := [e.kind, e.prod, e.id, e.body, e.hep, e.hno]
def qevCells (es : List Ev) : List Value := rowCells (es.map qevRow)
def qansRow (a : QA) : List Int := [a.code, a.ep, a.no, a.body]
def qansCells (l : List QA) : List Value := rowCells (l.map qansRow)
theorem qevCells_snoc (es : List Ev) (k p i b h n : Int) : qevCells (es ++ [⟨k, p, i, b, h, n⟩]) = qevCells es ++ [.int .i64 k, .int .i64 p, .int .i64 i, .int .i64 b, .int .i64 h, .int .i64 n] := by simp [qevCells, rowCells, qevRow]
theorem qansCells_snoc (l : List QA) (k p i b : Int) : qansCells (l ++ [⟨k, p, i, b⟩]) = qansCells l ++ [.int .i64 k, .int .i64 p, .int .i64 i, .int .i64 b] := by simp [qansCells, rowCells, qansRow]

structure PL where
  q : QM
  es : List Ev
  ans : List QA
def PL.zero : PL := ⟨QM.zero, [], []⟩
def PL.next (p : PL) (e : Ev) : PL := ⟨(p.q.step e).1, if (p.q.step e).2.2 then p.es ++ [e] else p.es, if (p.q.step e).2.2 then p.ans ++ [(p.q.step e).2.1] else p.ans⟩
def evIn (rows : List (List Int)) (k : Nat) : Ev := evOf ((rows.getD k []).getD 0 0) ((rows.getD k []).getD 1 0) ((rows.getD k []).getD 2 0) ((rows.getD k []).getD 3 0)
def playN (rows : List (List Int)) : Nat → PL
  | 0 => PL.zero
  | k + 1 => (playN rows k).next (evIn rows k)
theorem evOf_chk (k a b c : Int) : (evOf k a b c).check = 0 := by
  have a1 := pick_lo a 2 (by omega)
  have a2 := pick_hi a 2 (by omega)
  have b1 := pick_lo b 24 (by omega)
  have b2 := pick_hi b 24 (by omega)
  have c1 := pick_lo c 1000 (by omega)
  have c2 := pick_hi c 1000 (by omega)
  have a3 := pick_lo a 3 (by omega)
  have a4 := pick_hi a 3 (by omega)
  have b3 := pick_lo b 6 (by omega)
  have b4 := pick_hi b 6 (by omega)
  unfold evOf
  split
  · unfold Ev.check
    rw [if_pos rfl, if_pos (by simp [Ev.ok1, inB]; omega), if_pos ⟨rfl, rfl⟩]
  · split
    · rfl
    · split
      · unfold Ev.check
        rw [if_neg (by simp), if_pos rfl, if_pos (by simp [Ev.ok3, inB]; omega), if_pos ⟨rfl, rfl, rfl⟩]
      · rfl
theorem QM.step_same {q : QM} {e : Ev} (h : (q.step e).2.2 = false) : (q.step e).1 = q := by
  revert h
  unfold QM.step
  by_cases h1 : e.kind = 1
  · by_cases h2 : e.id < q.t e.prod.toNat - 8
    · simp [h1, h2]
    · by_cases h3 : q.S e.prod.toNat e.id = true
      · simp [h1, h2, h3]
      · simp [h1, h2, h3]
  · by_cases h2 : e.kind = 2
    · rw [if_neg h1, if_pos h2]
      unfold QM.recv
      cases q.rd <;> simp
    · by_cases h3 : e.kind = 3
      · by_cases h4 : e.hep = q.ep
        · by_cases h5 : q.ls.any (isNo e.hno) = true
          · rw [if_neg h1, if_neg h2, if_pos h3, if_pos h4, if_pos h5]; simp
          · rw [if_neg h1, if_neg h2, if_pos h3, if_pos h4, if_neg h5]; simp
        · rw [if_neg h1, if_neg h2, if_pos h3, if_neg h4]; simp
      · rw [if_neg h1, if_neg h2, if_neg h3]; simp
structure PL.Ok (p : PL) (k : Nat) : Prop where
  inv : p.q.Inv
  room : p.q.Room (100 - k)
  len : p.es.length = p.ans.length
  le : p.es.length ≤ k
theorem PL.zero_ok : PL.zero.Ok 0 := ⟨QM.zero_inv, ⟨by simp [zero, QM.zero], by simp [zero, QM.zero], by simp [zero, QM.zero], by simp [zero, QM.zero]⟩, rfl, Nat.le_refl _⟩
theorem PL.Ok.next {p : PL} {k : Nat} (h : p.Ok k) (hk : k < 100) {e : Ev} (he : e.check = 0) : (p.next e).Ok (k + 1) := by
  refine ⟨h.inv.step he, ?_, ?_, ?_⟩
  · have := h.room
    rw [show 100 - k = 100 - (k + 1) + 1 by omega] at this
    exact this.step e
  · unfold PL.next
    have := h.len
    dsimp only
    split <;> simp [this]
  · unfold PL.next
    have := h.le
    dsimp only
    split
    · simp; omega
    · omega
theorem playN_ok (rows : List (List Int)) : ∀ k, k ≤ 100 → (playN rows k).Ok k
  | 0, _ => PL.zero_ok
  | k + 1, h => (playN_ok rows k (by omega)).next (by omega) (evOf_chk _ _ _ _)

theorem QIs.agg {w : World} {lo B : Nat} {q : QM} {v : Value} (h : QIs w lo B q v) : ∃ cs, v = .agg cs ∧ cs.size = 41 ∧ cs.all (·.oneCell') = true := by
  obtain ⟨A1, c1, A2, c2, rfl, _⟩ := h
  exact ⟨_, rfl, rfl, by kernel_rfl⟩
theorem Reads.keepIn {w w' : World} {B size n lo : Nat} {A : Option Addr} {xs : List Value} (h : Reads w B size A n xs) (hA : Fresh lo A) (hk : ∀ p : Addr, lo ≤ p.block → p.block < B → w'.cell? p = w.cell? p) : Reads w' B size A n xs :=
  ⟨h.1, fun hn => by
    obtain ⟨ad, e, hb, hc⟩ := h.2 hn
    have := hA ad e
    exact ⟨ad, e, hb, fun j v hv => (hk _ (by rw [block_of_add]; exact this) (by rw [block_of_add]; exact hb)).trans (hc j v hv)⟩⟩
theorem QIs.keep {w w' : World} {lo B : Nat} {q : QM} {v : Value} (h : QIs w lo B q v) (hk : ∀ p : Addr, lo ≤ p.block → p.block < B → w'.cell? p = w.cell? p) : QIs w' lo B q v := by
  obtain ⟨A1, c1, A2, c2, e, h1, h2, h3, h4, h5, h6⟩ := h
  exact ⟨A1, c1, A2, c2, e, h1, h2, h3.keepIn h5 hk, h4.keepIn h6 hk, h5, h6⟩
theorem QIs.more {w : World} {lo B B' : Nat} {q : QM} {v : Value} (h : QIs w lo B q v) (hB : B ≤ B') : QIs w lo B' q v := by
  obtain ⟨A1, c1, A2, c2, e, h1, h2, h3, h4, h5, h6⟩ := h
  exact ⟨A1, c1, A2, c2, e, h1, h2, h3.more hB, h4.more hB, h5, h6⟩
theorem QIs.low {w : World} {lo lo' B : Nat} {q : QM} {v : Value} (h : QIs w lo B q v) (hl : lo' ≤ lo) : QIs w lo' B q v := by
  obtain ⟨A1, c1, A2, c2, e, h1, h2, h3, h4, h5, h6⟩ := h
  exact ⟨A1, c1, A2, c2, e, h1, h2, h3, h4, fun ad e => Nat.le_trans hl (h5 ad e), fun ad e => Nat.le_trans hl (h6 ad e)⟩
theorem QIs.below {w w' : World} {lo B : Nat} {q : QM} {v : Value} (h : QIs w lo B q v) (hb : Below B w w') : QIs w' lo B q v := h.keep fun _ _ hp => hb.cell hp
theorem QIs.setRow {w : World} {lo B g : Nat} {q : QM} {v : Value} {cs : Array Value} (h : QIs w lo B q v) (hg : g < lo ∨ B ≤ g) : QIs (w.setRow g cs) lo B q v :=
  h.keep fun _ h1 h2 => World.cell?_of_block (setRow_other _ _ _ _ (by omega))
theorem QIs.alloc {w : World} {lo B : Nat} {q : QM} {v : Value} (h : QIs w lo B q v) (hB : B ≤ w.heap.size) (o : Obj) : QIs (w.alloc o) lo B q v := h.below ((Below.refl B w).alloc hB o)
theorem QIs.grown {w w' : World} {lo B : Nat} {q : QM} {v : Value} {row : Option Nat} (h : QIs w lo B q v) (hg : w.grownBy w' row) (hB : B ≤ w.heap.size) (hr : ∀ k, row = some k → k < lo ∨ B ≤ k) : QIs w' lo B q v :=
  h.keep fun p h1 h2 => World.cell?_of_block (hg.block p.block (by omega) (fun e => by have := hr _ e.symm; omega))
theorem QIs.zero (w : World) (lo B : Nat) : QIs w lo B QM.zero (.agg (qCells 0 0 0 (.slice none 0 0) (.slice none 0 0) (fun _ => 0) (fun _ _ => false))) :=
  ⟨none, 0, none, 0, rfl, Nat.le_refl _, Nat.le_refl _, ⟨rfl, fun h => absurd h (by simp [QM.zero])⟩, ⟨rfl, fun h => absurd h (by simp [QM.zero])⟩, fun _ h => (by cases h), fun _ h => (by cases h)⟩

end Go.Proofs.Ytjgbkicnagcmdaa
