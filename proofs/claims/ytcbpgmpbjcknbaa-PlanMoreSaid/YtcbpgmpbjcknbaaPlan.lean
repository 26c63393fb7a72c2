/- Plans: loads in memory, rows of numbers, and 'plan.check'. -/
import Derived.Test.YtcbpgmpbjcknbaaPk
import Derived.Test.YtcbpgmpbjcknbaaView
import Derived.Test.YtcbpgmpbjcknbaaPut3
import Derived.Deep.QuietTactic
import Derived.BigQuiet
import Derived.BigRegion
import Derived.Deep.OwnRows
namespace Go.Proofs.Ytcbpgmpbjcknbaa
open Go.RowKit

def PutsP (w : World) (v : Value) (e : Ending) (w' : World) : Prop := e = .returned v ∧ Below w.heap.size w w'
/-- the cells of loads -/
def ldCells (q n k : Nat → Int) (L : Nat) : List Value := rowCells ((List.range L).map fun i => [q i, n i, k i])
theorem ldCells_len (q n k : Nat → Int) (L : Nat) : (ldCells q n k L).length = L * 3 := by
  have := rowCells_len 3 ((List.range L).map fun i => [q i, n i, k i]) (fun r hr => by obtain ⟨x, _, rfl⟩ := List.mem_map.1 hr; rfl)
  unfold ldCells
  simpa using this
theorem ldCells_at (q n k : Nat → Int) (L i j : Nat) (hi : i < L) (hj : j < 3) : (ldCells q n k L)[i * 3 + j]? = some (.int .i64 (([q i, n i, k i] : List Int).getD j 0)) := by
  unfold ldCells
  rw [rowCells_at 3 _ (fun r hr => by obtain ⟨x, _, rfl⟩ := List.mem_map.1 hr; rfl) i j [q i, n i, k i] (by rw [List.getElem?_map, List.getElem?_range hi]; rfl) hj]
  rcases (show j = 0 ∨ j = 1 ∨ j = 2 by omega) with rfl | rfl | rfl <;> rfl
theorem ldAt {w : World} {B L i c : Nat} {A : Option Addr} {q n k : Nat → Int} (h : Reads w B 3 A L (ldCells q n k L)) (hi : i < L) (_ : L ≤ c) :
    ∃ b off, A = some ⟨b, off, none⟩ ∧ b < B ∧ w.cell? ⟨b, off + i * 3, none⟩ = some (.int .i64 (q i)) ∧ w.cell? ⟨b, off + i * 3 + 1, none⟩ = some (.int .i64 (n i)) ∧ w.cell? ⟨b, off + i * 3 + 2, none⟩ = some (.int .i64 (k i)) := by
  obtain ⟨b, off, rfl, hb, hc⟩ := h.plain (by omega) (by omega)
  refine ⟨b, off, rfl, hb, ?_, ?_, ?_⟩
  · have := hc _ _ (ldCells_at q n k L i 0 hi (by omega)); simpa using this
  · have := hc _ _ (ldCells_at q n k L i 1 hi (by omega)); simpa [Nat.add_assoc] using this
  · have := hc _ _ (ldCells_at q n k L i 2 hi (by omega)); simpa [Nat.add_assoc] using this

def lastQ (q : Nat → Int) (i : Nat) : Int := if i = 0 then -1 else q (i - 1)
structure LdOk (q n k : Nat → Int) (L N : Nat) : Prop where
  hL : L ≤ 4
  n1 : 1 ≤ N
  n5 : N ≤ 5
  qs : ∀ i, i < L → lastQ q i < q i ∧ q i < 4
  ns : ∀ i, i < L → 0 ≤ n i ∧ n i < N
  ks : ∀ i, i < L → 0 ≤ k i ∧ k i ≤ 1000

/-- a row of numbers -/
def hRow (f : Nat → Int) (N : Nat) : Array Value := ((List.range N).map fun i => Value.int .i64 (f i)).toArray
theorem hRow_size (f : Nat → Int) (N : Nat) : (hRow f N).size = N := by simp [hRow]
theorem hRow_at (f : Nat → Int) (N i : Nat) (h : i < N) : (hRow f N)[i]? = some (.int .i64 (f i)) := by
  simp [hRow, List.getElem?_toArray, List.getElem?_range h]
def setF {α : Type} (f : Nat → α) (q : Nat) (x : α) : Nat → α := fun i => if i = q then x else f i
theorem hRow_set (f : Nat → Int) (N q : Nat) (x : Int) (h : q < N) : (hRow f N).setIfInBounds q (.int .i64 x) = hRow (setF f q x) N := by
  apply Array.ext_getElem?
  intro i
  rw [Array.getElem?_setIfInBounds, hRow_size]
  by_cases hi : i < N
  · rw [hRow_at _ N i hi, hRow_at _ N i hi]
    unfold setF
    by_cases hq : q = i
    · subst hq; simp [h]
    · rw [if_neg hq, if_neg (fun e => hq e.symm)]
  · rw [Array.getElem?_eq_none (by rw [hRow_size]; omega), Array.getElem?_eq_none (by rw [hRow_size]; omega)]
    by_cases hq : q = i
    · omega
    · rw [if_neg hq]
theorem made_hRow (N : Nat) : madeCells #[.int .i64 0] N = hRow (fun _ => 0) N := by
  apply Array.ext_getElem?
  intro i
  by_cases hi : i < N
  · rw [hRow_at _ N i hi]
    simp [madeCells, hi, Nat.mod_one]
  · rw [Array.getElem?_eq_none (by rw [size_madeCells]; omega), Array.getElem?_eq_none (by rw [hRow_size]; omega)]
/-- a row of bools -/
def bRow (f : Nat → Bool) (N : Nat) : Array Value := ((List.range N).map fun i => Value.bool (f i)).toArray
theorem bRow_size (f : Nat → Bool) (N : Nat) : (bRow f N).size = N := by simp [bRow]
theorem bRow_at (f : Nat → Bool) (N i : Nat) (h : i < N) : (bRow f N)[i]? = some (.bool (f i)) := by
  simp [bRow, List.getElem?_toArray, List.getElem?_range h]
theorem bRow_set (f : Nat → Bool) (N q : Nat) (x : Bool) (h : q < N) : (bRow f N).setIfInBounds q (.bool x) = bRow (setF f q x) N := by
  apply Array.ext_getElem?
  intro i
  rw [Array.getElem?_setIfInBounds, bRow_size]
  by_cases hi : i < N
  · rw [bRow_at _ N i hi, bRow_at _ N i hi]
    unfold setF
    by_cases hq : q = i
    · subst hq; simp [h]
    · rw [if_neg hq, if_neg (fun e => hq e.symm)]
  · rw [Array.getElem?_eq_none (by rw [bRow_size]; omega), Array.getElem?_eq_none (by rw [bRow_size]; omega)]
    by_cases hq : q = i
    · omega
    · rw [if_neg hq]
theorem made_bRow (N : Nat) : madeCells #[.bool false] N = bRow (fun _ => false) N := by
  apply Array.ext_getElem?
  intro i
  by_cases hi : i < N
  · rw [bRow_at _ N i hi]
    simp [madeCells, hi, Nat.mod_one]
  · rw [Array.getElem?_eq_none (by rw [size_madeCells]; omega), Array.getElem?_eq_none (by rw [bRow_size]; omega)]

set_option maxRecDepth 100000 in
set_option maxHeartbeats 2000000 in
theorem pcheck_ok (A : Option Addr) (L c B : Nat) (q n k : Nat → Int) (N : Nat) (w : World) (h : LdOk q n k L N) (hc : L ≤ c) (hr : Reads w B 3 A L (ldCells q n k L)) (hB : B ≤ w.heap.size) :
    Calls Try.prog 21 #[.slice A L c, .int .i64 N] w (PutsP w (.int .i64 0)) := by
  obtain ⟨hL, hN1, hN5, hq, hn, hk⟩ := h
  have g1 : ¬ (N : Int) < 1 := by omega
  have g2 : ¬ 5 < (N : Int) := by omega
  have HQ := Lib.hid hq
  have HN := Lib.hid hn
  have HK := Lib.hid hk
  clear hq hn hk
  go_enter Try.func21, Try.ntmps21
  go_wp2_with fail
  go_loopw [5, 16] (fun s5 s16 wr => ∃ i : Nat, i ≤ L ∧ s16 = .int .i64 i ∧ s5 = .int .i64 (lastQ q i) ∧ Below w.heap.size w wr) (fun _ s16 _ => L - (intOf s16).toNat)
  case atStart => exact ⟨0, Nat.zero_le _, rfl, rfl, Below.refl _ _⟩
  case round =>
    obtain ⟨i, hi, rfl, rfl, bel⟩ := hrel
    by_cases hlt : i < L
    · obtain ⟨b, off, rfl, hb, y0, y1, y2⟩ := ldAt (hr.below (bel.mono hB)) hlt hc
      obtain ⟨a0, a1⟩ := HQ.out i hlt
      obtain ⟨a2, a3⟩ := HN.out i hlt
      obtain ⟨a4, a5⟩ := HK.out i hlt
      have HLK := Lib.hid (show lastQ q (i + 1) = q i by simp [lastQ])
      generalize q i = id at *
      generalize n i = nd at *
      generalize k i = wk at *
      generalize lastQ q i = last at *
      have hs := bel.size
      have zb : b < wr.heap.size := by omega
      have hI : (i : Int) < (L : Int) := by omega
      have i2 : IntKind.i64.wrap ((i : Int) + 1) = (i : Int) + 1 := IntWalk.i64_in _ (by omega)
      have j1 : ¬ id ≤ last := by omega
      have j2 : ¬ 4 ≤ id := by omega
      have j3 : ¬ nd < 0 := by omega
      have j4 : ¬ (N : Int) ≤ nd := by omega
      have j5 : ¬ wk < 0 := by omega
      have j6 : ¬ 1073741824 < wk := by omega
      have bel2 := bel.alloc bel.size (.cells #[.int .i64 id, .int .i64 nd, .int .i64 wk] 37)
      clear hr HQ HN HK
      go_wp2_with fail
      go_roundw
      case rel => exact ⟨i + 1, by omega, by go_num, by rw [HLK.out], bel2⟩
      case measure => simp [intOf]; omega
    · obtain rfl : i = L := by omega
      go_wp2_with fail
      go_ret
      exact ⟨by simp, bel⟩

end Go.Proofs.Ytcbpgmpbjcknbaa
