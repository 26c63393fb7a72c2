/- Windows: 'lowest', 'Check', 'Seen', 'Take' at windows that may be. -/
import Derived.Test.YtjgbkicnagcmdaaChk
import Derived.Test.YtjgbkicnagcmdaaChecked
import Derived.Deep.QuietTactic
import Derived.BigQuiet
import Derived.Deep.RegionHeld3
namespace Go.Proofs.Ytjgbkicnagcmdaa
open Go.RowKit

/-- the cells of a window -/
def winCells (top : Int) (f : Nat → Bool) : Array Value := #[.int .i64 top, .bool (f 0), .bool (f 1), .bool (f 2), .bool (f 3), .bool (f 4), .bool (f 5), .bool (f 6), .bool (f 7)]

theorem winCells_set (top : Int) (f : Nat → Bool) (k : Nat) (hk : k < 8) : (winCells top f).setIfInBounds (1 + k) (.bool true) = winCells top (fun j => f j || j == k) := by
  rcases (show k = 0 ∨ k = 1 ∨ k = 2 ∨ k = 3 ∨ k = 4 ∨ k = 5 ∨ k = 6 ∨ k = 7 by omega) with rfl | rfl | rfl | rfl | rfl | rfl | rfl | rfl <;> simp [winCells]

theorem winCells_at (top : Int) (f : Nat → Bool) (k : Nat) (hk : k < 8) : (winCells top f)[1 + k]? = some (.bool (f k)) := by
  rcases (show k = 0 ∨ k = 1 ∨ k = 2 ∨ k = 3 ∨ k = 4 ∨ k = 5 ∨ k = 6 ∨ k = 7 by omega) with rfl | rfl | rfl | rfl | rfl | rfl | rfl | rfl <;> simp [winCells]

theorem winCells_congr (top : Int) (f g : Nat → Bool) (h : ∀ k, k < 8 → f k = g k) : winCells top f = winCells top g := by
  simp [winCells, h 0 (by omega), h 1 (by omega), h 2 (by omega), h 3 (by omega), h 4 (by omega), h 5 (by omega), h 6 (by omega), h 7 (by omega)]

/-- the cells of a window's block, one by one -/
theorem winBlk {w : World} {g : Nat} {t : TypeId} {top : Int} {f : Nat → Bool} (h : Blk w g t (winCells top f)) :
    w.cell? ⟨g, 0, none⟩ = some (.int .i64 top) ∧ w.cell? ⟨g, 1, none⟩ = some (.bool (f 0)) ∧ w.cell? ⟨g, 2, none⟩ = some (.bool (f 1)) ∧ w.cell? ⟨g, 3, none⟩ = some (.bool (f 2)) ∧ w.cell? ⟨g, 4, none⟩ = some (.bool (f 3)) ∧
      w.cell? ⟨g, 5, none⟩ = some (.bool (f 4)) ∧ w.cell? ⟨g, 6, none⟩ = some (.bool (f 5)) ∧ w.cell? ⟨g, 7, none⟩ = some (.bool (f 6)) ∧ w.cell? ⟨g, 8, none⟩ = some (.bool (f 7)) :=
  ⟨h.cell 0, h.cell 1, h.cell 2, h.cell 3, h.cell 4, h.cell 5, h.cell 6, h.cell 7, h.cell 8⟩


set_option maxHeartbeats 400000 in
theorem lowest_any (top : Int) (b0 b1 b2 b3 b4 b5 b6 b7 : Bool) (w : World) (h0 : 0 ≤ top) (h1 : top ≤ 1073741825) :
    Calls Try.prog 59 #[.agg #[.int .i64 top, .bool b0, .bool b1, .bool b2, .bool b3, .bool b4, .bool b5, .bool b6, .bool b7]] w (Puts w (.int .i64 (top - 8))) := by
  go_enter Try.func59, Try.ntmps59
  go_wp2
  go_ret
  exact ⟨rfl, (Below.refl _ _).alloc (Nat.le_refl _) _⟩

/-- a window that may be, seen as the set of the ids that were taken -/
structure WOk (top : Int) (S : Int → Bool) : Prop where
  lo : 0 ≤ top
  hi : top ≤ 1073741825
  in_ : ∀ x, S x = true → 0 ≤ x ∧ x < top
  last : 0 < top → S (top - 1) = true

/-- what a window shows of the ids -/
def shows (top : Int) (S : Int → Bool) (k : Nat) : Bool := S (top - 8 + k)

set_option maxHeartbeats 1000000 in
theorem wcheck_ok (top : Int) (S : Int → Bool) (w : World) (h : WOk top S) :
    Calls Try.prog 50 #[.agg (winCells top (shows top S))] w (Puts w (.int .i64 0)) := by
  obtain ⟨hlo, hhi, hin, hlast⟩ := h
  have hf : ∀ k, k < 8 → shows top S k = true → 0 ≤ top - 8 + k := fun k _ h => (hin _ h).1
  have h7 : 0 < top → shows top S 7 = true := fun h => by have := hlast h; unfold shows; rw [← this]; congr 1; omega
  generalize shows top S = f at *
  clear hin hlast
  have HF := Lib.hid hf
  have H7 := Lib.hid h7
  clear hf h7
  go_enter Try.func50, Try.ntmps50
  unfold winCells
  go_wp2
  go_loopw [15] (fun i wr => ∃ k : Nat, k ≤ 8 ∧ i = .int .i64 k ∧ Blk wr w.heap.size 43 (winCells top f) ∧ Below w.heap.size w wr) (fun i _ => 8 - (intOf i).toNat)
  case atStart => exact ⟨0, by omega, rfl, Blk.new _ _ _, (Below.refl _ _).alloc (Nat.le_refl _) _⟩
  case round =>
    obtain ⟨k, hk, rfl, hblk, hbel⟩ := hrel
    obtain ⟨c0, c1, c2, c3, c4, c5, c6, c7, c8⟩ := winBlk hblk
    rcases (show k = 0 ∨ k = 1 ∨ k = 2 ∨ k = 3 ∨ k = 4 ∨ k = 5 ∨ k = 6 ∨ k = 7 ∨ k = 8 by omega) with rfl | rfl | rfl | rfl | rfl | rfl | rfl | rfl | rfl
    · have i0 : ∀ W : World, (Instr.index 41 (.agg #[.bool (f 0), .bool (f 1), .bool (f 2), .bool (f 3), .bool (f 4), .bool (f 5), .bool (f 6), .bool (f 7)]) (.int .i64 0)).run Try.prog W = .ok (.bool (f 0)) W := fun _ => by kernel_rfl
      have hp := HF.out 0 (by omega)
      cases hs : f 0 with
      | false =>
        rw [hs] at i0
        clear hp
        go_wp2
        go_roundw
        case rel => exact ⟨1, by omega, rfl, hblk, hbel⟩
        case measure => simp [intOf]
      | true =>
        have hq := hp hs
        have hI : ¬ (top - 8 + (0 : Int) < 0) := by omega
        rw [hs] at i0
        clear hp hq
        go_wp2_with fail
        refine (lowest_any _ _ _ _ _ _ _ _ _ _ hlo hhi).mono ?_
        rintro e w1 ⟨rfl, hb⟩
        have hblk1 := hblk.below hb hblk.lt
        have hbel1 := hbel.trans (hb.mono hbel.size)
        clear hblk hbel hb c0 c1 c2 c3 c4 c5 c6 c7 c8
        go_wp2
        go_roundw
        case rel => exact ⟨1, by omega, rfl, hblk1, hbel1⟩
        case measure => simp [intOf]
    · have i0 : ∀ W : World, (Instr.index 41 (.agg #[.bool (f 0), .bool (f 1), .bool (f 2), .bool (f 3), .bool (f 4), .bool (f 5), .bool (f 6), .bool (f 7)]) (.int .i64 1)).run Try.prog W = .ok (.bool (f 1)) W := fun _ => by kernel_rfl
      have hp := HF.out 1 (by omega)
      cases hs : f 1 with
      | false =>
        rw [hs] at i0
        clear hp
        go_wp2
        go_roundw
        case rel => exact ⟨2, by omega, rfl, hblk, hbel⟩
        case measure => simp [intOf]
      | true =>
        have hq := hp hs
        have hI : ¬ (top - 8 + (1 : Int) < 0) := by omega
        rw [hs] at i0
        clear hp hq
        go_wp2_with fail
        refine (lowest_any _ _ _ _ _ _ _ _ _ _ hlo hhi).mono ?_
        rintro e w1 ⟨rfl, hb⟩
        have hblk1 := hblk.below hb hblk.lt
        have hbel1 := hbel.trans (hb.mono hbel.size)
        clear hblk hbel hb c0 c1 c2 c3 c4 c5 c6 c7 c8
        go_wp2
        go_roundw
        case rel => exact ⟨2, by omega, rfl, hblk1, hbel1⟩
        case measure => simp [intOf]
    · have i0 : ∀ W : World, (Instr.index 41 (.agg #[.bool (f 0), .bool (f 1), .bool (f 2), .bool (f 3), .bool (f 4), .bool (f 5), .bool (f 6), .bool (f 7)]) (.int .i64 2)).run Try.prog W = .ok (.bool (f 2)) W := fun _ => by kernel_rfl
      have hp := HF.out 2 (by omega)
      cases hs : f 2 with
      | false =>
        rw [hs] at i0
        clear hp
        go_wp2
        go_roundw
        case rel => exact ⟨3, by omega, rfl, hblk, hbel⟩
        case measure => simp [intOf]
      | true =>
        have hq := hp hs
        have hI : ¬ (top - 8 + (2 : Int) < 0) := by omega
        rw [hs] at i0
        clear hp hq
        go_wp2_with fail
        refine (lowest_any _ _ _ _ _ _ _ _ _ _ hlo hhi).mono ?_
        rintro e w1 ⟨rfl, hb⟩
        have hblk1 := hblk.below hb hblk.lt
        have hbel1 := hbel.trans (hb.mono hbel.size)
        clear hblk hbel hb c0 c1 c2 c3 c4 c5 c6 c7 c8
        go_wp2
        go_roundw
        case rel => exact ⟨3, by omega, rfl, hblk1, hbel1⟩
        case measure => simp [intOf]
    · have i0 : ∀ W : World, (Instr.index 41 (.agg #[.bool (f 0), .bool (f 1), .bool (f 2), .bool (f 3), .bool (f 4), .bool (f 5), .bool (f 6), .bool (f 7)]) (.int .i64 3)).run Try.prog W = .ok (.bool (f 3)) W := fun _ => by kernel_rfl
      have hp := HF.out 3 (by omega)
      cases hs : f 3 with
      | false =>
        rw [hs] at i0
        clear hp
        go_wp2
        go_roundw
        case rel => exact ⟨4, by omega, rfl, hblk, hbel⟩
        case measure => simp [intOf]
      | true =>
        have hq := hp hs
        have hI : ¬ (top - 8 + (3 : Int) < 0) := by omega
        rw [hs] at i0
        clear hp hq
        go_wp2_with fail
        refine (lowest_any _ _ _ _ _ _ _ _ _ _ hlo hhi).mono ?_
        rintro e w1 ⟨rfl, hb⟩
        have hblk1 := hblk.below hb hblk.lt
        have hbel1 := hbel.trans (hb.mono hbel.size)
        clear hblk hbel hb c0 c1 c2 c3 c4 c5 c6 c7 c8
        go_wp2
        go_roundw
        case rel => exact ⟨4, by omega, rfl, hblk1, hbel1⟩
        case measure => simp [intOf]
    · have i0 : ∀ W : World, (Instr.index 41 (.agg #[.bool (f 0), .bool (f 1), .bool (f 2), .bool (f 3), .bool (f 4), .bool (f 5), .bool (f 6), .bool (f 7)]) (.int .i64 4)).run Try.prog W = .ok (.bool (f 4)) W := fun _ => by kernel_rfl
      have hp := HF.out 4 (by omega)
      cases hs : f 4 with
      | false =>
        rw [hs] at i0
        clear hp
        go_wp2
        go_roundw
        case rel => exact ⟨5, by omega, rfl, hblk, hbel⟩
        case measure => simp [intOf]
      | true =>
        have hq := hp hs
        have hI : ¬ (top - 8 + (4 : Int) < 0) := by omega
        rw [hs] at i0
        clear hp hq
        go_wp2_with fail
        refine (lowest_any _ _ _ _ _ _ _ _ _ _ hlo hhi).mono ?_
        rintro e w1 ⟨rfl, hb⟩
        have hblk1 := hblk.below hb hblk.lt
        have hbel1 := hbel.trans (hb.mono hbel.size)
        clear hblk hbel hb c0 c1 c2 c3 c4 c5 c6 c7 c8
        go_wp2
        go_roundw
        case rel => exact ⟨5, by omega, rfl, hblk1, hbel1⟩
        case measure => simp [intOf]
    · have i0 : ∀ W : World, (Instr.index 41 (.agg #[.bool (f 0), .bool (f 1), .bool (f 2), .bool (f 3), .bool (f 4), .bool (f 5), .bool (f 6), .bool (f 7)]) (.int .i64 5)).run Try.prog W = .ok (.bool (f 5)) W := fun _ => by kernel_rfl
      have hp := HF.out 5 (by omega)
      cases hs : f 5 with
      | false =>
        rw [hs] at i0
        clear hp
        go_wp2
        go_roundw
        case rel => exact ⟨6, by omega, rfl, hblk, hbel⟩
        case measure => simp [intOf]
      | true =>
        have hq := hp hs
        have hI : ¬ (top - 8 + (5 : Int) < 0) := by omega
        rw [hs] at i0
        clear hp hq
        go_wp2_with fail
        refine (lowest_any _ _ _ _ _ _ _ _ _ _ hlo hhi).mono ?_
        rintro e w1 ⟨rfl, hb⟩
        have hblk1 := hblk.below hb hblk.lt
        have hbel1 := hbel.trans (hb.mono hbel.size)
        clear hblk hbel hb c0 c1 c2 c3 c4 c5 c6 c7 c8
        go_wp2
        go_roundw
        case rel => exact ⟨6, by omega, rfl, hblk1, hbel1⟩
        case measure => simp [intOf]
    · have i0 : ∀ W : World, (Instr.index 41 (.agg #[.bool (f 0), .bool (f 1), .bool (f 2), .bool (f 3), .bool (f 4), .bool (f 5), .bool (f 6), .bool (f 7)]) (.int .i64 6)).run Try.prog W = .ok (.bool (f 6)) W := fun _ => by kernel_rfl
      have hp := HF.out 6 (by omega)
      cases hs : f 6 with
      | false =>
        rw [hs] at i0
        clear hp
        go_wp2
        go_roundw
        case rel => exact ⟨7, by omega, rfl, hblk, hbel⟩
        case measure => simp [intOf]
      | true =>
        have hq := hp hs
        have hI : ¬ (top - 8 + (6 : Int) < 0) := by omega
        rw [hs] at i0
        clear hp hq
        go_wp2_with fail
        refine (lowest_any _ _ _ _ _ _ _ _ _ _ hlo hhi).mono ?_
        rintro e w1 ⟨rfl, hb⟩
        have hblk1 := hblk.below hb hblk.lt
        have hbel1 := hbel.trans (hb.mono hbel.size)
        clear hblk hbel hb c0 c1 c2 c3 c4 c5 c6 c7 c8
        go_wp2
        go_roundw
        case rel => exact ⟨7, by omega, rfl, hblk1, hbel1⟩
        case measure => simp [intOf]
    · have i0 : ∀ W : World, (Instr.index 41 (.agg #[.bool (f 0), .bool (f 1), .bool (f 2), .bool (f 3), .bool (f 4), .bool (f 5), .bool (f 6), .bool (f 7)]) (.int .i64 7)).run Try.prog W = .ok (.bool (f 7)) W := fun _ => by kernel_rfl
      have hp := HF.out 7 (by omega)
      cases hs : f 7 with
      | false =>
        rw [hs] at i0
        clear hp
        go_wp2
        go_roundw
        case rel => exact ⟨8, by omega, rfl, hblk, hbel⟩
        case measure => simp [intOf]
      | true =>
        have hq := hp hs
        have hI : ¬ (top - 8 + (7 : Int) < 0) := by omega
        rw [hs] at i0
        clear hp hq
        go_wp2_with fail
        refine (lowest_any _ _ _ _ _ _ _ _ _ _ hlo hhi).mono ?_
        rintro e w1 ⟨rfl, hb⟩
        have hblk1 := hblk.below hb hblk.lt
        have hbel1 := hbel.trans (hb.mono hbel.size)
        clear hblk hbel hb c0 c1 c2 c3 c4 c5 c6 c7 c8
        go_wp2
        go_roundw
        case rel => exact ⟨8, by omega, rfl, hblk1, hbel1⟩
        case measure => simp [intOf]
    · by_cases ht : 0 < top
      · have hs := H7.out ht
        rw [hs] at c8
        go_wp2
        go_ret
        exact ⟨rfl, hbel⟩
      · go_wp2
        go_ret
        exact ⟨rfl, hbel⟩

/-- the call returns two values, and nothing that was there has turned -/
def Puts2 (w : World) (u v : Value) (e : Ending) (w' : World) : Prop := e = .returned (.tuple #[u, v]) ∧ Below w.heap.size w w'

set_option maxHeartbeats 1000000 in
theorem wseen_low (top : Int) (S : Int → Bool) (id : Int) (w : World) (h : WOk top S) (h1 : 0 ≤ id) (h2 : id ≤ 1073741824) (hl : id < top - 8) :
    Calls Try.prog 60 #[.agg (winCells top (shows top S)), .int .i64 id] w (Puts2 w (.bool false) (.int .i64 9)) := by
  have C := fun w => Lib.hid (wcheck_ok top S w h)
  have hlo := h.lo
  have hhi := h.hi
  generalize shows top S = f at *
  clear h
  have hlt : id < top := by omega
  go_enter Try.func60, Try.ntmps60
  unfold winCells
  go_wp2_with fail
  refine (C _).out.mono ?_
  rintro e w1 ⟨rfl, hb⟩
  have hblk := (Blk.new w 43 (winCells top f)).below hb (by simp)
  have hbel : Below w.heap.size w w1 := ((Below.refl _ _).alloc (Nat.le_refl _) _).trans (hb.mono (by simp))
  obtain ⟨c0, c1, c2, c3, c4, c5, c6, c7, c8⟩ := winBlk hblk
  clear hb
  go_wp2_with fail
  refine (lowest_any _ _ _ _ _ _ _ _ _ _ hlo hhi).mono ?_
  rintro e w2 ⟨rfl, hb⟩
  have hbel2 := hbel.trans (hb.mono hbel.size)
  clear hb
  go_wp2
  go_ret2
  exact ⟨rfl, hbel2⟩

set_option maxHeartbeats 2000000 in
theorem wseen_in (top : Int) (S : Int → Bool) (id : Int) (w : World) (h : WOk top S) (h1 : 0 ≤ id) (h2 : id ≤ 1073741824) (hl : top - 8 ≤ id) :
    Calls Try.prog 60 #[.agg (winCells top (shows top S)), .int .i64 id] w (Puts2 w (.bool (S id)) (.int .i64 0)) := by
  have C := fun w => Lib.hid (wcheck_ok top S w h)
  have hlo := h.lo
  have hhi := h.hi
  have hS : top ≤ id → S id = false := fun ht => by cases hs : S id with | false => rfl | true => have := (h.in_ id hs).2; omega
  have hf : ∀ k : Nat, id = top - 8 + k → S id = shows top S k := fun k hk => by unfold shows; rw [hk]
  generalize shows top S = f at *
  generalize S id = b at *
  have HS := Lib.hid hS
  have HF := Lib.hid hf
  clear h hS hf
  go_enter Try.func60, Try.ntmps60
  unfold winCells
  go_wp2_with fail
  refine (C _).out.mono ?_
  rintro e w1 ⟨rfl, hb⟩
  have hblk := (Blk.new w 43 (winCells top f)).below hb (by simp)
  have hbel : Below w.heap.size w w1 := ((Below.refl _ _).alloc (Nat.le_refl _) _).trans (hb.mono (by simp))
  obtain ⟨c0, c1, c2, c3, c4, c5, c6, c7, c8⟩ := winBlk hblk
  clear hb
  by_cases ht : top ≤ id
  · have hb := HS.out ht
    subst hb
    clear C
    go_wp2
    go_ret2
    exact ⟨rfl, hbel⟩
  · have ht' : id < top := by omega
    go_wp2_with fail
    refine (lowest_any _ _ _ _ _ _ _ _ _ _ hlo hhi).mono ?_
    rintro e w2 ⟨rfl, hb⟩
    have hblk2 := hblk.below hb hblk.lt
    have hbel2 := hbel.trans (hb.mono hbel.size)
    clear hb hbel c0 c1 c2 c3 c4 c5 c6 c7 c8
    obtain ⟨c0, c1, c2, c3, c4, c5, c6, c7, c8⟩ := winBlk hblk2
    clear hblk
    have hI : ¬ id < top - 8 := by omega
    go_wp2_with fail
    refine (lowest_any _ _ _ _ _ _ _ _ _ _ hlo hhi).mono ?_
    rintro e w3 ⟨rfl, hb⟩
    have hblk3 := hblk2.below hb hblk2.lt
    have hbel3 := hbel2.trans (hb.mono hbel2.size)
    obtain ⟨k, hk⟩ := Int.eq_ofNat_of_zero_le (show 0 ≤ id - (top - 8) by omega)
    have hk8 : k < 8 := by omega
    have hcell : w3.cell? ⟨w.heap.size, 1 + (id - (top - 8)).toNat, none⟩ = some (.bool (f k)) := by
      rw [show (id - (top - 8)).toNat = k by omega]
      exact (hblk3.cell (1 + k)).trans (winCells_at top f k hk8)
    have hv := HF.out k (by omega)
    clear hb hbel2 c0 c1 c2 c3 c4 c5 c6 c7 c8 hblk2 hblk3
    subst hv
    have HK := Lib.hid hk
    clear hk
    go_wp2
    go_ret2
    exact ⟨rfl, hbel3⟩

set_option maxHeartbeats 400000 in
theorem lowest_exact (top : Int) (b0 b1 b2 b3 b4 b5 b6 b7 : Bool) (w : World) (h0 : 0 ≤ top) (h1 : top ≤ 1073741825) :
    Calls Try.prog 59 #[.agg #[.int .i64 top, .bool b0, .bool b1, .bool b2, .bool b3, .bool b4, .bool b5, .bool b6, .bool b7]] w
      fun e w' => e = .returned (.int .i64 (top - 8)) ∧ w.alloc (.cells #[.int .i64 top, .bool b0, .bool b1, .bool b2, .bool b3, .bool b4, .bool b5, .bool b6, .bool b7] 43) = w' := by
  go_enter Try.func59, Try.ntmps59
  go_wp2
  go_ret
  exact ⟨rfl, rfl⟩

/-- the call returns three values, and nothing that was there has turned -/
def Puts3 (w : World) (u v x : Value) (e : Ending) (w' : World) : Prop := e = .returned (.tuple #[u, v, x]) ∧ Below w.heap.size w w'

theorem below_drewN {B : Nat} {a w : World} (h : Below B a w) (n : Nat) : Below B a (w.drewN n) := ⟨h.os, h.tape, h.output, h.size, h.block⟩

set_option maxHeartbeats 1000000 in
theorem wtake_low (top : Int) (S : Int → Bool) (id : Int) (w : World) (h : WOk top S) (h1 : 0 ≤ id) (h2 : id ≤ 1073741824) (hl : id < top - 8) :
    Calls Try.prog 53 #[.agg (winCells top (shows top S)), .int .i64 id] w (Puts3 w (.agg (winCells 0 fun _ => false)) (.bool false) (.int .i64 9)) := by
  have C := fun w => Lib.hid (wseen_low top S id w h h1 h2 hl)
  generalize shows top S = f at *
  go_enter Try.func53, Try.ntmps53
  unfold winCells
  go_wp2_with fail
  refine (C _).out.mono ?_
  rintro e w1 ⟨rfl, hb⟩
  have hblk := ((Blk.new w 43 (winCells top f)).alloc (.cells #[.int .i64 0, .bool false, .bool false, .bool false, .bool false, .bool false, .bool false, .bool false, .bool false] 43)).below hb (by simp; omega)
  have hblk2 := (Blk.new (w.alloc (.cells (winCells top f) 43)) 43 (winCells 0 fun _ => false)).below hb (by simp)
  rw [World.size_alloc] at hblk2
  have hbel : Below w.heap.size w w1 := (((Below.refl _ _).alloc (Nat.le_refl _) _).alloc (by simp) _).trans (hb.mono (by simp; omega))
  have hz := hblk2.lt
  obtain ⟨c0, c1, c2, c3, c4, c5, c6, c7, c8⟩ := winBlk hblk2
  have hfr := hblk2.frozen
  clear hb hblk hblk2 h C
  go_wp2
  exact bodyPost_ret (v := .tuple #[.agg (winCells 0 fun _ => false), .bool false, .int .i64 9]) (by simp [results, Try.results53, go_sem, winCells, *]) rfl ⟨rfl, by repeat (first | with_reducible exact hbel | refine Below.setCell ?_ (by simp) _)⟩

set_option maxHeartbeats 1000000 in
theorem wtake_seen (top : Int) (S : Int → Bool) (id : Int) (w : World) (h : WOk top S) (h1 : 0 ≤ id) (h2 : id ≤ 1073741824) (hl : top - 8 ≤ id) (hs : S id = true) :
    Calls Try.prog 53 #[.agg (winCells top (shows top S)), .int .i64 id] w (Puts3 w (.agg (winCells top (shows top S))) (.bool false) (.int .i64 0)) := by
  have C := fun w => Lib.hid (hs ▸ wseen_in top S id w h h1 h2 hl)
  generalize shows top S = f at *
  clear hs
  go_enter Try.func53, Try.ntmps53
  unfold winCells
  go_wp2_with fail
  refine (C _).out.mono ?_
  rintro e w1 ⟨rfl, hb⟩
  have hblk := ((Blk.new w 43 (winCells top f)).alloc (.cells #[.int .i64 0, .bool false, .bool false, .bool false, .bool false, .bool false, .bool false, .bool false, .bool false] 43)).below hb (by simp; omega)
  have hblk2 := (Blk.new (w.alloc (.cells (winCells top f) 43)) 43 (winCells 0 fun _ => false)).below hb (by simp)
  rw [World.size_alloc] at hblk2
  have hbel : Below w.heap.size w w1 := (((Below.refl _ _).alloc (Nat.le_refl _) _).alloc (by simp) _).trans (hb.mono (by simp; omega))
  have hz := hblk2.lt
  obtain ⟨c0, c1, c2, c3, c4, c5, c6, c7, c8⟩ := winBlk hblk2
  obtain ⟨d0, d1, d2, d3, d4, d5, d6, d7, d8⟩ := winBlk hblk
  have hfr := hblk2.frozen
  clear hb hblk hblk2 h C
  go_wp2
  exact bodyPost_ret (v := .tuple #[.agg (winCells top f), .bool false, .int .i64 0]) (by simp [results, Try.results53, go_sem, winCells, *]) rfl ⟨rfl, by repeat (first | with_reducible exact hbel | refine Below.setCell ?_ (by simp) _)⟩

/-- the cells of the new window, behind k rounds -/
def half (top top' : Int) (S : Int → Bool) (k : Nat) (j : Nat) : Bool := decide (top' - 8 + j < top - 8 + k) && S (top' - 8 + j)

theorem half_zero (top top' : Int) (S : Int → Bool) (h : top ≤ top') : winCells top' (half top top' S 0) = winCells top' (fun _ => false) :=
  winCells_congr _ _ _ fun k _ => by simp [half]; omega

theorem half_skip (top top' : Int) (S : Int → Bool) (k : Nat) (h : S (top - 8 + k) = false ∨ top - 8 + (k : Int) < top' - 8) : winCells top' (half top top' S (k + 1)) = winCells top' (half top top' S k) :=
  winCells_congr _ _ _ fun j _ => by
    unfold half
    by_cases hj : top' - 8 + (j : Int) = top - 8 + k
    · rcases h with h | h
      · rw [hj, h, Bool.and_false, Bool.and_false]
      · omega
    · congr 1
      rw [Bool.eq_iff_iff]
      simp only [decide_eq_true_eq]
      omega

theorem half_take (top top' : Int) (S : Int → Bool) (k m : Nat) (h : S (top - 8 + k) = true) (hm : top - 8 + (k : Int) = top' - 8 + m) (hm8 : m < 8) :
    (winCells top' (half top top' S k)).setIfInBounds (1 + m) (.bool true) = winCells top' (half top top' S (k + 1)) := by
  rw [winCells_set _ _ _ hm8]
  refine winCells_congr _ _ _ fun j _ => ?_
  unfold half
  by_cases hj : j = m
  · subst hj
    rw [← hm, h]
    simp
    omega
  · have e : (j == m) = false := beq_eq_false_iff_ne.2 hj
    rw [e, Bool.or_false]
    congr 1
    rw [Bool.eq_iff_iff]
    simp only [decide_eq_true_eq]
    omega

/-- the window behind a new id -/
theorem half_end (top top' : Int) (S : Int → Bool) (id : Int) (m : Nat) (hin : ∀ x, S x = true → 0 ≤ x ∧ x < top) (hm : id = top' - 8 + m) (hm8 : m < 8) :
    (winCells top' (half top top' S 8)).setIfInBounds (1 + m) (.bool true) = winCells top' (shows top' fun x => S x || x == id) := by
  rw [winCells_set _ _ _ hm8]
  refine winCells_congr _ _ _ fun j _ => ?_
  unfold half shows
  have e : ((top' - 8 + (j : Int)) == id) = (j == m) := by
    rw [Bool.eq_iff_iff]; simp only [beq_iff_eq]; omega
  show _ = (S (top' - 8 + (j : Int)) || (top' - 8 + (j : Int) == id))
  rw [e]
  congr 1
  cases hs : S (top' - 8 + j) with
  | false => rw [Bool.and_false]
  | true =>
    have := (hin _ hs).2
    simp
    omega

theorem WOk.take {top : Int} {S : Int → Bool} {id : Int} (h : WOk top S) (h1 : 0 ≤ id) (h2 : id ≤ 1073741824) : WOk (max top (id + 1)) (fun x => S x || x == id) := by
  refine ⟨by have := h.lo; omega, by have := h.hi; omega, fun x hx => ?_, fun hp => ?_⟩
  · rcases Bool.or_eq_true_iff.1 hx with hx | hx
    · have := h.in_ x hx; omega
    · have := beq_iff_eq.1 hx; omega
  · rcases Int.lt_or_le id top with hlt | hge
    · have := h.last (by omega)
      rw [show max top (id + 1) - 1 = top - 1 by omega, this]; rfl
    · rw [show max top (id + 1) - 1 = id by omega]; simp

end Go.Proofs.Ytjgbkicnagcmdaa
