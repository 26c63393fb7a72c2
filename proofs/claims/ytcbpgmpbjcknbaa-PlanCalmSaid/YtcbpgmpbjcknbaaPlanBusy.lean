/- Plans: 'busy'. -/
import Derived.Test.YtcbpgmpbjcknbaaPlanBeh
namespace Go.Proofs.Ytcbpgmpbjcknbaa
open Go.RowKit

def Unlike (h : Nat → Int) (N : Nat) : Prop := ∃ i, 1 ≤ i ∧ i < N ∧ h i ≠ h 0
def BusyPost (w : World) (h : Nat → Int) (N : Nat) (e : Ending) (w' : World) : Prop :=
  ∃ b : Bool, e = .returned (.bool b) ∧ (b = true ↔ Unlike h N) ∧ Below w.heap.size w w'
theorem zero5 : (#[.int .i64 0, .int .i64 0, .int .i64 0, .int .i64 0, .int .i64 0] : Array Value) = hRow (fun _ => 0) 5 := rfl

set_option maxRecDepth 100000 in
set_option maxHeartbeats 4000000 in
theorem busy_ok (A : Option Addr) (L c B : Nat) (q n k : Nat → Int) (N : Nat) (w : World) (h : LdOk q n k L N) (hc : L ≤ c) (hr : Reads w B 3 A L (ldCells q n k L)) (hB : B ≤ w.heap.size) :
    Calls Try.prog 13 #[.slice A L c, .int .i64 N] w (BusyPost w (sumTo n k L) N) := by
  obtain ⟨hL, hN1, hN5, hq, hn, hk⟩ := h
  have HBD := Lib.hid (sumTo_bd n k L hk)
  have HN := Lib.hid hn
  have HK := Lib.hid hk
  have HS := Lib.hid (sumTo_set n k)
  have HP1 := Lib.hid (show ∀ w', Unlike (sumTo n k L) N → Below w.heap.size w w' → BusyPost w (sumTo n k L) N (.returned (.bool true)) w' from fun w' a b => ⟨true, rfl, ⟨fun _ => a, fun _ => rfl⟩, b⟩)
  have HP0 := Lib.hid (show ∀ w', ¬ Unlike (sumTo n k L) N → Below w.heap.size w w' → BusyPost w (sumTo n k L) N (.returned (.bool false)) w' from fun w' a b => ⟨false, rfl, ⟨fun h => (by cases h), fun h => absurd h a⟩, b⟩)
  generalize BusyPost w (sumTo n k L) N = POST at *
  clear hq hn hk
  have E0 := Blk.new w 73 (hRow (fun _ => 0) 5)
  rw [← zero5] at E0
  have bel0 := (Below.refl w.heap.size w).alloc (Nat.le_refl _) (.cells #[.int .i64 0, .int .i64 0, .int .i64 0, .int .i64 0, .int .i64 0] 73)
  go_enter Try.func13, Try.ntmps13
  go_wp2_with fail
  go_loopw [6] (fun s6 wr => ∃ i : Nat, i ≤ L ∧ s6 = .int .i64 i ∧ Blk wr w.heap.size 73 (hRow (sumTo n k i) 5) ∧ Below w.heap.size w wr) (fun s6 _ => L - (intOf s6).toNat)
  case atStart => exact ⟨0, Nat.zero_le _, rfl, E0, bel0⟩
  case round =>
    clear E0 bel0
    obtain ⟨i, hi, rfl, E, bel⟩ := hrel
    by_cases hlt : i < L
    · obtain ⟨b, off, rfl, hb, y0, y1, y2⟩ := ldAt (hr.below (bel.mono hB)) hlt hc
      obtain ⟨a2, a3⟩ := HN.out i hlt
      obtain ⟨a4, a5⟩ := HK.out i hlt
      obtain ⟨X, hX⟩ := Int.eq_ofNat_of_zero_le a2
      have hSE := Lib.hid (HS.out i X hX)
      obtain ⟨b0, b1⟩ := HBD.out i X (by omega)
      have q1 := (E.cell X).trans (hRow_at _ 5 X (by omega))
      have i3 : IntKind.i64.wrap (sumTo n k i X + k i) = sumTo n k i X + k i := IntWalk.i64_in _ (by omega)
      rw [hX] at y1 a2 a3
      have E5 := E.set_ X (.int .i64 (sumTo n k i X + k i))
      rw [hRow_set _ 5 X _ (by omega), hSE.out] at E5
      generalize sumTo n k i X = sv at *
      generalize q i = id at *
      generalize k i = wk at *
      have hs := bel.size
      have zb : b < wr.heap.size := by omega
      have zg := E.lt
      have zf := E.frozen
      have hI : (i : Int) < (L : Int) := by omega
      have hXN : X < 5 := by omega
      have hXI : (X : Int) < 5 := by omega
      have i2 : IntKind.i64.wrap ((i : Int) + 1) = (i : Int) + 1 := IntWalk.i64_in _ (by omega)
      have bel2 := bel.setCell (p := ⟨w.heap.size, X, none⟩) (Nat.le_refl _) (.int .i64 (sv + wk))
      have ne1 : ¬ b = w.heap.size := by omega
      have ne2 : ¬ w.heap.size = b := by omega
      clear hr HN HK HBD HS hX hSE HP1 HP0 y0
      go_wp2_with fail
      go_region
      all_goals
        go_wp2_with fail
        go_roundw
        case rel => exact ⟨i + 1, by omega, by go_num, E5.drew, bel2.drew⟩
        case measure => simp [intOf]; omega
    · obtain rfl : i = L := by omega
      clear hr HN HK HBD HS
      obtain ⟨h, hh⟩ : ∃ h, sumTo n k i = h := ⟨_, rfl⟩
      rw [hh] at E HP1 HP0
      clear hh
      go_wp2_with fail
      go_loopw [7] (fun s7 wx => ∃ j : Nat, 1 ≤ j ∧ j ≤ N ∧ s7 = .int .i64 j ∧ (∀ x, 1 ≤ x → x < j → h x = h 0) ∧ Blk wx w.heap.size 73 (hRow h 5) ∧ Below w.heap.size w wx) (fun s7 _ => N - (intOf s7).toNat)
      case atStart => exact ⟨1, by omega, hN1, rfl, fun x h1 h2 => by omega, E, bel⟩
      case round =>
        clear E bel
        obtain ⟨j, hj1, hj, rfl, hall, E, bel⟩ := hrel
        have HA := Lib.hid hall
        clear hall
        by_cases hjN : j < N
        · have y0 := (E.cell 0).trans (hRow_at h 5 0 (by omega))
          have y1 := (E.cell j).trans (hRow_at h 5 j (by omega))
          have hjI : (j : Int) < (N : Int) := by omega
          have hj5 : (j : Int) < 5 := by omega
          have hj5' : j < 5 := by omega
          have i2 : IntKind.i64.wrap ((j : Int) + 1) = (j : Int) + 1 := IntWalk.i64_in _ (by omega)
          have zg := E.lt
          by_cases hne : h j = h 0
          · have HA2 := Lib.hid (show ∀ x, 1 ≤ x → x < j + 1 → h x = h 0 from fun x h1 h2 => by
              rcases (show x < j ∨ x = j by omega) with h3 | h3
              · exact HA.out x h1 h3
              · subst h3; exact hne)
            rw [hne] at y1
            clear hne HA HP1 HP0
            generalize h 0 = z at *
            go_wp2_with fail
            go_quiet (fail)
            go_wp2_with fail
            go_roundw
            case rel => exact ⟨j + 1, by omega, by omega, by go_num, HA2.out, E.drewN nq, below_drewN bel nq⟩
            case measure => simp [intOf]; omega
          · have hU := Lib.hid (show Unlike h N from ⟨j, hj1, hjN, hne⟩)
            have hfin := Lib.hid (fun nq => HP1.out _ hU.out (below_drewN bel nq))
            generalize h j = hj' at *
            generalize h 0 = z at *
            have e1 : (hj' == z) = false := by rw [beq_eq_false_iff_ne]; assumption
            have e2 : (hj' != z) = true := by rw [bne_iff_ne]; assumption
            have e3 : decide (hj' = z) = false := by rw [decide_eq_false_iff_not]; assumption
            clear hne HA HP1 HP0 hU
            go_wp2_with fail
            go_quiet (fail)
            go_wp2_with fail
            exact hfin.out nq
        · have hfin := Lib.hid (HP0.out _ (fun ⟨x, h1, h2, h3⟩ => h3 (HA.out x h1 (by omega))) bel)
          obtain rfl : j = N := by omega
          clear HP1 HP0 HA
          go_wp2_with fail
          exact hfin.out

end Go.Proofs.Ytcbpgmpbjcknbaa
