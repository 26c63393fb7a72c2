/- 'window.Take' at an id that is new. And more of what the proof stands on. -/
import Derived.Deep.DeepCutAuto
import Derived.IntWalk
import Derived.Test.YtjmncbfmjeeneaaRB1

namespace Go.Proofs.Ytjmncbfmjeeneaa
open Go.RowKit

set_option maxHeartbeats 4000000 in
theorem wtake_up (top : Int) (S : Int → Bool) (id : Int) (w : World) (h : WOk top S) (h1 : 0 ≤ id) (h2 : id ≤ 1073741824) (hl : top - 8 ≤ id) (hs : S id = false) (hmx : top < id + 1) :
    Calls Try.prog 52 #[.agg (winCells top (shows top S)), .int .i64 id] w (Puts3 w (.agg (winCells (id + 1) (shows (id + 1) fun x => S x || x == id))) (.bool true) (.int .i64 0)) := by
  have C := fun w => Lib.hid (hs ▸ wseen_in top S id w h h1 h2 hl)
  have hlo := h.lo
  have hhi := h.hi
  have HEnd := fun m => Lib.hid (half_end top (id + 1) S id m h.in_)
  have hf : ∀ k : Nat, S (top - 8 + k) = shows top S k := fun k => rfl
  have HF := Lib.hid hf
  clear hf h
  generalize shows (id + 1) (fun x => S x || x == id) = q at *
  generalize shows top S = f at *
  have t1 : top ≤ (id + 1) := by omega
  clear hs
  go_enter Try.func52, Try.ntmps52
  unfold winCells
  go_wp2_with fail
  refine (C _).out.mono ?_
  rintro e w1 ⟨rfl, hb⟩
  have hblk := ((Blk.new w 34 (winCells top f)).alloc (.cells #[.int .i64 0, .bool false, .bool false, .bool false, .bool false, .bool false, .bool false, .bool false, .bool false] 34)).below hb (by simp; omega)
  have hblk2 := (Blk.new (w.alloc (.cells (winCells top f) 34)) 34 (winCells 0 fun _ => false)).below hb (by simp)
  rw [World.size_alloc] at hblk2
  have hbel : Below w.heap.size w w1 := (((Below.refl _ _).alloc (Nat.le_refl _) _).alloc (by simp) _).trans (hb.mono (by simp; omega))
  obtain ⟨d0, d1, d2, d3, d4, d5, d6, d7, d8⟩ := winBlk hblk
  clear hb C
  have hz := hblk2.lt
  have hz0 := hblk.lt
  go_wp2
  go_loopw [33] (fun i wr => ∃ k : Nat, k ≤ 8 ∧ i = .int .i64 k ∧ Blk wr w.heap.size 34 (winCells top f) ∧ Blk wr (w.heap.size + 1) 34 (winCells 0 fun _ => false) ∧ Blk wr w1.heap.size 34 (winCells (id + 1) (half top (id + 1) S k)) ∧ Below w.heap.size w wr) (fun i _ => 8 - (intOf i).toNat)
  case atStart => exact ⟨0, by omega, rfl, hblk.alloc _, hblk2.alloc _, by rw [half_zero _ _ _ t1]; exact Blk.new _ _ _, hbel.alloc hbel.size _⟩
  case round =>
    obtain ⟨k, hk, rfl, e1, e2, e3, e4⟩ := hrel
    have y1 := e1.lt
    have y2 := e2.lt
    have y3 := e3.lt
    clear hblk hblk2 hbel d0 d1 d2 d3 d4 d5 d6 d7 d8
    obtain ⟨c0, c1, c2, c3, c4, c5, c6, c7, c8⟩ := winBlk e1
    obtain ⟨d0, d1, d2, d3, d4, d5, d6, d7, d8⟩ := winBlk e3
    have hfr := e3.frozen
    rcases (show k = 0 ∨ k = 1 ∨ k = 2 ∨ k = 3 ∨ k = 4 ∨ k = 5 ∨ k = 6 ∨ k = 7 ∨ k = 8 by omega) with rfl | rfl | rfl | rfl | rfl | rfl | rfl | rfl | rfl
    · obtain ⟨b, hb⟩ : ∃ b, f 0 = b := ⟨_, rfl⟩
      have i0 : ∀ W : World, (Instr.index 32 (.agg #[.bool (f 0), .bool (f 1), .bool (f 2), .bool (f 3), .bool (f 4), .bool (f 5), .bool (f 6), .bool (f 7)]) (.int .i64 0)).run Try.prog W = .ok (.bool b) W := fun _ => by rw [← hb]; kernel_rfl
      have hsk := Lib.hid ((HF.out 0).trans hb)
      clear hb
      have HSk := Lib.hid (half_skip top (id + 1) S 0)
      have HTk := Lib.hid (half_take top (id + 1) S 0)
      generalize half top (id + 1) S 0 = h at *
      go_wp2_with fail
      go_region_held3 (fun W => W.cell? ⟨w.heap.size, 0, none⟩ = some (.int .i64 top) ∧ W.cell? ⟨w.heap.size, 1, none⟩ = some (.bool (f 0)) ∧ W.cell? ⟨w.heap.size, 2, none⟩ = some (.bool (f 1)) ∧ W.cell? ⟨w.heap.size, 3, none⟩ = some (.bool (f 2)) ∧ W.cell? ⟨w.heap.size, 4, none⟩ = some (.bool (f 3)) ∧ W.cell? ⟨w.heap.size, 5, none⟩ = some (.bool (f 4)) ∧ W.cell? ⟨w.heap.size, 6, none⟩ = some (.bool (f 5)) ∧ W.cell? ⟨w.heap.size, 7, none⟩ = some (.bool (f 6)) ∧ W.cell? ⟨w.heap.size, 8, none⟩ = some (.bool (f 7)) ∧
        W.cell? ⟨w1.heap.size, 0, none⟩ = some (.int .i64 (id + 1)) ∧ W.cell? ⟨w1.heap.size, 1, none⟩ = some (.bool (h 0)) ∧ W.cell? ⟨w1.heap.size, 2, none⟩ = some (.bool (h 1)) ∧ W.cell? ⟨w1.heap.size, 3, none⟩ = some (.bool (h 2)) ∧ W.cell? ⟨w1.heap.size, 4, none⟩ = some (.bool (h 3)) ∧ W.cell? ⟨w1.heap.size, 5, none⟩ = some (.bool (h 4)) ∧ W.cell? ⟨w1.heap.size, 6, none⟩ = some (.bool (h 5)) ∧ W.cell? ⟨w1.heap.size, 7, none⟩ = some (.bool (h 6)) ∧ W.cell? ⟨w1.heap.size, 8, none⟩ = some (.bool (h 7))) (go_keep)
        (first | (go_at_call 34; refine (lowest_exact _ _ _ _ _ _ _ _ _ _ (by omega) (by omega)).mono ?_; rintro e w' ⟨rfl, rfl⟩))
      clear c0 c1 c2 c3 c4 c5 c6 c7 c8 d0 d1 d2 d3 d4 d5 d6 d7 d8
      cases b with
      | false =>
        go_wp2
        go_roundw
        case rel => exact ⟨1, by omega, rfl, ((e1.alloc _).alloc _).drew, ((e2.alloc _).alloc _).drew, by rw [HSk.out (.inl hsk.out)]; exact ((e3.alloc _).alloc _).drew, ((e4.alloc e4.size _).alloc (Nat.le_trans e4.size (by simp)) _).drew⟩
        case measure => simp [intOf]
      | true =>
        by_cases hneg : top - 8 - (id + 1 - 8) < 0
        · go_wp2
          all_goals
            go_roundw
            case rel => exact ⟨1, by omega, rfl, ((e1.alloc _).alloc _).drew, ((e2.alloc _).alloc _).drew, by rw [HSk.out (.inr (by omega))]; exact ((e3.alloc _).alloc _).drew, ((e4.alloc e4.size _).alloc (Nat.le_trans e4.size (by simp)) _).drew⟩
            case measure => simp [intOf]
        · obtain ⟨m, hm⟩ := Int.eq_ofNat_of_zero_le (show 0 ≤ top - 8 - (id + 1 - 8) by omega)
          have hm8 : m < 8 := by omega
          have hcell : wr.cell? ⟨w1.heap.size, 1 + (top - 8 - (id + 1 - 8)).toNat, none⟩ = some (.bool (h m)) := by
            rw [hm]
            exact (e3.cell (1 + m)).trans (winCells_at _ h m hm8)
          have e3' : (winCells (id + 1) h).setIfInBounds (1 + (top - 8 - (id + 1 - 8)).toNat) (.bool true) = winCells (id + 1) (half top (id + 1) S (0 + 1)) := by
            rw [hm]
            exact HTk.out m hsk.out (by omega) hm8
          have HMm := Lib.hid e3'
          clear e3' hm
          go_wp2
          all_goals
            go_roundw
            case rel => exact ⟨1, by omega, rfl, (((e1.far (by simp; omega) _).alloc _).alloc _).drew, (((e2.far (by simp; omega) _).alloc _).alloc _).drew, by rw [← HMm.out]; exact (((e3.set_ _ _).alloc _).alloc _).drew, (((e4.setCell (by simp; omega) _).alloc (by have := e4.size; simp [World.setCell]; omega) _).alloc (by have := e4.size; simp [World.setCell]; omega) _).drew⟩
            case measure => simp [intOf]
    · obtain ⟨b, hb⟩ : ∃ b, f 1 = b := ⟨_, rfl⟩
      have i0 : ∀ W : World, (Instr.index 32 (.agg #[.bool (f 0), .bool (f 1), .bool (f 2), .bool (f 3), .bool (f 4), .bool (f 5), .bool (f 6), .bool (f 7)]) (.int .i64 1)).run Try.prog W = .ok (.bool b) W := fun _ => by rw [← hb]; kernel_rfl
      have hsk := Lib.hid ((HF.out 1).trans hb)
      clear hb
      have HSk := Lib.hid (half_skip top (id + 1) S 1)
      have HTk := Lib.hid (half_take top (id + 1) S 1)
      generalize half top (id + 1) S 1 = h at *
      go_wp2_with fail
      go_region_held3 (fun W => W.cell? ⟨w.heap.size, 0, none⟩ = some (.int .i64 top) ∧ W.cell? ⟨w.heap.size, 1, none⟩ = some (.bool (f 0)) ∧ W.cell? ⟨w.heap.size, 2, none⟩ = some (.bool (f 1)) ∧ W.cell? ⟨w.heap.size, 3, none⟩ = some (.bool (f 2)) ∧ W.cell? ⟨w.heap.size, 4, none⟩ = some (.bool (f 3)) ∧ W.cell? ⟨w.heap.size, 5, none⟩ = some (.bool (f 4)) ∧ W.cell? ⟨w.heap.size, 6, none⟩ = some (.bool (f 5)) ∧ W.cell? ⟨w.heap.size, 7, none⟩ = some (.bool (f 6)) ∧ W.cell? ⟨w.heap.size, 8, none⟩ = some (.bool (f 7)) ∧
        W.cell? ⟨w1.heap.size, 0, none⟩ = some (.int .i64 (id + 1)) ∧ W.cell? ⟨w1.heap.size, 1, none⟩ = some (.bool (h 0)) ∧ W.cell? ⟨w1.heap.size, 2, none⟩ = some (.bool (h 1)) ∧ W.cell? ⟨w1.heap.size, 3, none⟩ = some (.bool (h 2)) ∧ W.cell? ⟨w1.heap.size, 4, none⟩ = some (.bool (h 3)) ∧ W.cell? ⟨w1.heap.size, 5, none⟩ = some (.bool (h 4)) ∧ W.cell? ⟨w1.heap.size, 6, none⟩ = some (.bool (h 5)) ∧ W.cell? ⟨w1.heap.size, 7, none⟩ = some (.bool (h 6)) ∧ W.cell? ⟨w1.heap.size, 8, none⟩ = some (.bool (h 7))) (go_keep)
        (first | (go_at_call 34; refine (lowest_exact _ _ _ _ _ _ _ _ _ _ (by omega) (by omega)).mono ?_; rintro e w' ⟨rfl, rfl⟩))
      clear c0 c1 c2 c3 c4 c5 c6 c7 c8 d0 d1 d2 d3 d4 d5 d6 d7 d8
      cases b with
      | false =>
        go_wp2
        go_roundw
        case rel => exact ⟨2, by omega, rfl, ((e1.alloc _).alloc _).drew, ((e2.alloc _).alloc _).drew, by rw [HSk.out (.inl hsk.out)]; exact ((e3.alloc _).alloc _).drew, ((e4.alloc e4.size _).alloc (Nat.le_trans e4.size (by simp)) _).drew⟩
        case measure => simp [intOf]
      | true =>
        by_cases hneg : top - 8 + 1 - (id + 1 - 8) < 0
        · go_wp2
          all_goals
            go_roundw
            case rel => exact ⟨2, by omega, rfl, ((e1.alloc _).alloc _).drew, ((e2.alloc _).alloc _).drew, by rw [HSk.out (.inr (by omega))]; exact ((e3.alloc _).alloc _).drew, ((e4.alloc e4.size _).alloc (Nat.le_trans e4.size (by simp)) _).drew⟩
            case measure => simp [intOf]
        · obtain ⟨m, hm⟩ := Int.eq_ofNat_of_zero_le (show 0 ≤ top - 8 + 1 - (id + 1 - 8) by omega)
          have hm8 : m < 8 := by omega
          have hcell : wr.cell? ⟨w1.heap.size, 1 + (top - 8 + 1 - (id + 1 - 8)).toNat, none⟩ = some (.bool (h m)) := by
            rw [hm]
            exact (e3.cell (1 + m)).trans (winCells_at _ h m hm8)
          have e3' : (winCells (id + 1) h).setIfInBounds (1 + (top - 8 + 1 - (id + 1 - 8)).toNat) (.bool true) = winCells (id + 1) (half top (id + 1) S (1 + 1)) := by
            rw [hm]
            exact HTk.out m hsk.out (by omega) hm8
          have HMm := Lib.hid e3'
          clear e3' hm
          go_wp2
          all_goals
            go_roundw
            case rel => exact ⟨2, by omega, rfl, (((e1.far (by simp; omega) _).alloc _).alloc _).drew, (((e2.far (by simp; omega) _).alloc _).alloc _).drew, by rw [← HMm.out]; exact (((e3.set_ _ _).alloc _).alloc _).drew, (((e4.setCell (by simp; omega) _).alloc (by have := e4.size; simp [World.setCell]; omega) _).alloc (by have := e4.size; simp [World.setCell]; omega) _).drew⟩
            case measure => simp [intOf]
    · obtain ⟨b, hb⟩ : ∃ b, f 2 = b := ⟨_, rfl⟩
      have i0 : ∀ W : World, (Instr.index 32 (.agg #[.bool (f 0), .bool (f 1), .bool (f 2), .bool (f 3), .bool (f 4), .bool (f 5), .bool (f 6), .bool (f 7)]) (.int .i64 2)).run Try.prog W = .ok (.bool b) W := fun _ => by rw [← hb]; kernel_rfl
      have hsk := Lib.hid ((HF.out 2).trans hb)
      clear hb
      have HSk := Lib.hid (half_skip top (id + 1) S 2)
      have HTk := Lib.hid (half_take top (id + 1) S 2)
      generalize half top (id + 1) S 2 = h at *
      go_wp2_with fail
      go_region_held3 (fun W => W.cell? ⟨w.heap.size, 0, none⟩ = some (.int .i64 top) ∧ W.cell? ⟨w.heap.size, 1, none⟩ = some (.bool (f 0)) ∧ W.cell? ⟨w.heap.size, 2, none⟩ = some (.bool (f 1)) ∧ W.cell? ⟨w.heap.size, 3, none⟩ = some (.bool (f 2)) ∧ W.cell? ⟨w.heap.size, 4, none⟩ = some (.bool (f 3)) ∧ W.cell? ⟨w.heap.size, 5, none⟩ = some (.bool (f 4)) ∧ W.cell? ⟨w.heap.size, 6, none⟩ = some (.bool (f 5)) ∧ W.cell? ⟨w.heap.size, 7, none⟩ = some (.bool (f 6)) ∧ W.cell? ⟨w.heap.size, 8, none⟩ = some (.bool (f 7)) ∧
        W.cell? ⟨w1.heap.size, 0, none⟩ = some (.int .i64 (id + 1)) ∧ W.cell? ⟨w1.heap.size, 1, none⟩ = some (.bool (h 0)) ∧ W.cell? ⟨w1.heap.size, 2, none⟩ = some (.bool (h 1)) ∧ W.cell? ⟨w1.heap.size, 3, none⟩ = some (.bool (h 2)) ∧ W.cell? ⟨w1.heap.size, 4, none⟩ = some (.bool (h 3)) ∧ W.cell? ⟨w1.heap.size, 5, none⟩ = some (.bool (h 4)) ∧ W.cell? ⟨w1.heap.size, 6, none⟩ = some (.bool (h 5)) ∧ W.cell? ⟨w1.heap.size, 7, none⟩ = some (.bool (h 6)) ∧ W.cell? ⟨w1.heap.size, 8, none⟩ = some (.bool (h 7))) (go_keep)
        (first | (go_at_call 34; refine (lowest_exact _ _ _ _ _ _ _ _ _ _ (by omega) (by omega)).mono ?_; rintro e w' ⟨rfl, rfl⟩))
      clear c0 c1 c2 c3 c4 c5 c6 c7 c8 d0 d1 d2 d3 d4 d5 d6 d7 d8
      cases b with
      | false =>
        go_wp2
        go_roundw
        case rel => exact ⟨3, by omega, rfl, ((e1.alloc _).alloc _).drew, ((e2.alloc _).alloc _).drew, by rw [HSk.out (.inl hsk.out)]; exact ((e3.alloc _).alloc _).drew, ((e4.alloc e4.size _).alloc (Nat.le_trans e4.size (by simp)) _).drew⟩
        case measure => simp [intOf]
      | true =>
        by_cases hneg : top - 8 + 2 - (id + 1 - 8) < 0
        · go_wp2
          all_goals
            go_roundw
            case rel => exact ⟨3, by omega, rfl, ((e1.alloc _).alloc _).drew, ((e2.alloc _).alloc _).drew, by rw [HSk.out (.inr (by omega))]; exact ((e3.alloc _).alloc _).drew, ((e4.alloc e4.size _).alloc (Nat.le_trans e4.size (by simp)) _).drew⟩
            case measure => simp [intOf]
        · obtain ⟨m, hm⟩ := Int.eq_ofNat_of_zero_le (show 0 ≤ top - 8 + 2 - (id + 1 - 8) by omega)
          have hm8 : m < 8 := by omega
          have hcell : wr.cell? ⟨w1.heap.size, 1 + (top - 8 + 2 - (id + 1 - 8)).toNat, none⟩ = some (.bool (h m)) := by
            rw [hm]
            exact (e3.cell (1 + m)).trans (winCells_at _ h m hm8)
          have e3' : (winCells (id + 1) h).setIfInBounds (1 + (top - 8 + 2 - (id + 1 - 8)).toNat) (.bool true) = winCells (id + 1) (half top (id + 1) S (2 + 1)) := by
            rw [hm]
            exact HTk.out m hsk.out (by omega) hm8
          have HMm := Lib.hid e3'
          clear e3' hm
          go_wp2
          all_goals
            go_roundw
            case rel => exact ⟨3, by omega, rfl, (((e1.far (by simp; omega) _).alloc _).alloc _).drew, (((e2.far (by simp; omega) _).alloc _).alloc _).drew, by rw [← HMm.out]; exact (((e3.set_ _ _).alloc _).alloc _).drew, (((e4.setCell (by simp; omega) _).alloc (by have := e4.size; simp [World.setCell]; omega) _).alloc (by have := e4.size; simp [World.setCell]; omega) _).drew⟩
            case measure => simp [intOf]
    · obtain ⟨b, hb⟩ : ∃ b, f 3 = b := ⟨_, rfl⟩
      have i0 : ∀ W : World, (Instr.index 32 (.agg #[.bool (f 0), .bool (f 1), .bool (f 2), .bool (f 3), .bool (f 4), .bool (f 5), .bool (f 6), .bool (f 7)]) (.int .i64 3)).run Try.prog W = .ok (.bool b) W := fun _ => by rw [← hb]; kernel_rfl
      have hsk := Lib.hid ((HF.out 3).trans hb)
      clear hb
      have HSk := Lib.hid (half_skip top (id + 1) S 3)
      have HTk := Lib.hid (half_take top (id + 1) S 3)
      generalize half top (id + 1) S 3 = h at *
      go_wp2_with fail
      go_region_held3 (fun W => W.cell? ⟨w.heap.size, 0, none⟩ = some (.int .i64 top) ∧ W.cell? ⟨w.heap.size, 1, none⟩ = some (.bool (f 0)) ∧ W.cell? ⟨w.heap.size, 2, none⟩ = some (.bool (f 1)) ∧ W.cell? ⟨w.heap.size, 3, none⟩ = some (.bool (f 2)) ∧ W.cell? ⟨w.heap.size, 4, none⟩ = some (.bool (f 3)) ∧ W.cell? ⟨w.heap.size, 5, none⟩ = some (.bool (f 4)) ∧ W.cell? ⟨w.heap.size, 6, none⟩ = some (.bool (f 5)) ∧ W.cell? ⟨w.heap.size, 7, none⟩ = some (.bool (f 6)) ∧ W.cell? ⟨w.heap.size, 8, none⟩ = some (.bool (f 7)) ∧
        W.cell? ⟨w1.heap.size, 0, none⟩ = some (.int .i64 (id + 1)) ∧ W.cell? ⟨w1.heap.size, 1, none⟩ = some (.bool (h 0)) ∧ W.cell? ⟨w1.heap.size, 2, none⟩ = some (.bool (h 1)) ∧ W.cell? ⟨w1.heap.size, 3, none⟩ = some (.bool (h 2)) ∧ W.cell? ⟨w1.heap.size, 4, none⟩ = some (.bool (h 3)) ∧ W.cell? ⟨w1.heap.size, 5, none⟩ = some (.bool (h 4)) ∧ W.cell? ⟨w1.heap.size, 6, none⟩ = some (.bool (h 5)) ∧ W.cell? ⟨w1.heap.size, 7, none⟩ = some (.bool (h 6)) ∧ W.cell? ⟨w1.heap.size, 8, none⟩ = some (.bool (h 7))) (go_keep)
        (first | (go_at_call 34; refine (lowest_exact _ _ _ _ _ _ _ _ _ _ (by omega) (by omega)).mono ?_; rintro e w' ⟨rfl, rfl⟩))
      clear c0 c1 c2 c3 c4 c5 c6 c7 c8 d0 d1 d2 d3 d4 d5 d6 d7 d8
      cases b with
      | false =>
        go_wp2
        go_roundw
        case rel => exact ⟨4, by omega, rfl, ((e1.alloc _).alloc _).drew, ((e2.alloc _).alloc _).drew, by rw [HSk.out (.inl hsk.out)]; exact ((e3.alloc _).alloc _).drew, ((e4.alloc e4.size _).alloc (Nat.le_trans e4.size (by simp)) _).drew⟩
        case measure => simp [intOf]
      | true =>
        by_cases hneg : top - 8 + 3 - (id + 1 - 8) < 0
        · go_wp2
          all_goals
            go_roundw
            case rel => exact ⟨4, by omega, rfl, ((e1.alloc _).alloc _).drew, ((e2.alloc _).alloc _).drew, by rw [HSk.out (.inr (by omega))]; exact ((e3.alloc _).alloc _).drew, ((e4.alloc e4.size _).alloc (Nat.le_trans e4.size (by simp)) _).drew⟩
            case measure => simp [intOf]
        · obtain ⟨m, hm⟩ := Int.eq_ofNat_of_zero_le (show 0 ≤ top - 8 + 3 - (id + 1 - 8) by omega)
          have hm8 : m < 8 := by omega
          have hcell : wr.cell? ⟨w1.heap.size, 1 + (top - 8 + 3 - (id + 1 - 8)).toNat, none⟩ = some (.bool (h m)) := by
            rw [hm]
            exact (e3.cell (1 + m)).trans (winCells_at _ h m hm8)
          have e3' : (winCells (id + 1) h).setIfInBounds (1 + (top - 8 + 3 - (id + 1 - 8)).toNat) (.bool true) = winCells (id + 1) (half top (id + 1) S (3 + 1)) := by
            rw [hm]
            exact HTk.out m hsk.out (by omega) hm8
          have HMm := Lib.hid e3'
          clear e3' hm
          go_wp2
          all_goals
            go_roundw
            case rel => exact ⟨4, by omega, rfl, (((e1.far (by simp; omega) _).alloc _).alloc _).drew, (((e2.far (by simp; omega) _).alloc _).alloc _).drew, by rw [← HMm.out]; exact (((e3.set_ _ _).alloc _).alloc _).drew, (((e4.setCell (by simp; omega) _).alloc (by have := e4.size; simp [World.setCell]; omega) _).alloc (by have := e4.size; simp [World.setCell]; omega) _).drew⟩
            case measure => simp [intOf]
    · obtain ⟨b, hb⟩ : ∃ b, f 4 = b := ⟨_, rfl⟩
      have i0 : ∀ W : World, (Instr.index 32 (.agg #[.bool (f 0), .bool (f 1), .bool (f 2), .bool (f 3), .bool (f 4), .bool (f 5), .bool (f 6), .bool (f 7)]) (.int .i64 4)).run Try.prog W = .ok (.bool b) W := fun _ => by rw [← hb]; kernel_rfl
      have hsk := Lib.hid ((HF.out 4).trans hb)
      clear hb
      have HSk := Lib.hid (half_skip top (id + 1) S 4)
      have HTk := Lib.hid (half_take top (id + 1) S 4)
      generalize half top (id + 1) S 4 = h at *
      go_wp2_with fail
      go_region_held3 (fun W => W.cell? ⟨w.heap.size, 0, none⟩ = some (.int .i64 top) ∧ W.cell? ⟨w.heap.size, 1, none⟩ = some (.bool (f 0)) ∧ W.cell? ⟨w.heap.size, 2, none⟩ = some (.bool (f 1)) ∧ W.cell? ⟨w.heap.size, 3, none⟩ = some (.bool (f 2)) ∧ W.cell? ⟨w.heap.size, 4, none⟩ = some (.bool (f 3)) ∧ W.cell? ⟨w.heap.size, 5, none⟩ = some (.bool (f 4)) ∧ W.cell? ⟨w.heap.size, 6, none⟩ = some (.bool (f 5)) ∧ W.cell? ⟨w.heap.size, 7, none⟩ = some (.bool (f 6)) ∧ W.cell? ⟨w.heap.size, 8, none⟩ = some (.bool (f 7)) ∧
        W.cell? ⟨w1.heap.size, 0, none⟩ = some (.int .i64 (id + 1)) ∧ W.cell? ⟨w1.heap.size, 1, none⟩ = some (.bool (h 0)) ∧ W.cell? ⟨w1.heap.size, 2, none⟩ = some (.bool (h 1)) ∧ W.cell? ⟨w1.heap.size, 3, none⟩ = some (.bool (h 2)) ∧ W.cell? ⟨w1.heap.size, 4, none⟩ = some (.bool (h 3)) ∧ W.cell? ⟨w1.heap.size, 5, none⟩ = some (.bool (h 4)) ∧ W.cell? ⟨w1.heap.size, 6, none⟩ = some (.bool (h 5)) ∧ W.cell? ⟨w1.heap.size, 7, none⟩ = some (.bool (h 6)) ∧ W.cell? ⟨w1.heap.size, 8, none⟩ = some (.bool (h 7))) (go_keep)
        (first | (go_at_call 34; refine (lowest_exact _ _ _ _ _ _ _ _ _ _ (by omega) (by omega)).mono ?_; rintro e w' ⟨rfl, rfl⟩))
      clear c0 c1 c2 c3 c4 c5 c6 c7 c8 d0 d1 d2 d3 d4 d5 d6 d7 d8
      cases b with
      | false =>
        go_wp2
        go_roundw
        case rel => exact ⟨5, by omega, rfl, ((e1.alloc _).alloc _).drew, ((e2.alloc _).alloc _).drew, by rw [HSk.out (.inl hsk.out)]; exact ((e3.alloc _).alloc _).drew, ((e4.alloc e4.size _).alloc (Nat.le_trans e4.size (by simp)) _).drew⟩
        case measure => simp [intOf]
      | true =>
        by_cases hneg : top - 8 + 4 - (id + 1 - 8) < 0
        · go_wp2
          all_goals
            go_roundw
            case rel => exact ⟨5, by omega, rfl, ((e1.alloc _).alloc _).drew, ((e2.alloc _).alloc _).drew, by rw [HSk.out (.inr (by omega))]; exact ((e3.alloc _).alloc _).drew, ((e4.alloc e4.size _).alloc (Nat.le_trans e4.size (by simp)) _).drew⟩
            case measure => simp [intOf]
        · obtain ⟨m, hm⟩ := Int.eq_ofNat_of_zero_le (show 0 ≤ top - 8 + 4 - (id + 1 - 8) by omega)
          have hm8 : m < 8 := by omega
          have hcell : wr.cell? ⟨w1.heap.size, 1 + (top - 8 + 4 - (id + 1 - 8)).toNat, none⟩ = some (.bool (h m)) := by
            rw [hm]
            exact (e3.cell (1 + m)).trans (winCells_at _ h m hm8)
          have e3' : (winCells (id + 1) h).setIfInBounds (1 + (top - 8 + 4 - (id + 1 - 8)).toNat) (.bool true) = winCells (id + 1) (half top (id + 1) S (4 + 1)) := by
            rw [hm]
            exact HTk.out m hsk.out (by omega) hm8
          have HMm := Lib.hid e3'
          clear e3' hm
          go_wp2
          all_goals
            go_roundw
            case rel => exact ⟨5, by omega, rfl, (((e1.far (by simp; omega) _).alloc _).alloc _).drew, (((e2.far (by simp; omega) _).alloc _).alloc _).drew, by rw [← HMm.out]; exact (((e3.set_ _ _).alloc _).alloc _).drew, (((e4.setCell (by simp; omega) _).alloc (by have := e4.size; simp [World.setCell]; omega) _).alloc (by have := e4.size; simp [World.setCell]; omega) _).drew⟩
            case measure => simp [intOf]
    · obtain ⟨b, hb⟩ : ∃ b, f 5 = b := ⟨_, rfl⟩
      have i0 : ∀ W : World, (Instr.index 32 (.agg #[.bool (f 0), .bool (f 1), .bool (f 2), .bool (f 3), .bool (f 4), .bool (f 5), .bool (f 6), .bool (f 7)]) (.int .i64 5)).run Try.prog W = .ok (.bool b) W := fun _ => by rw [← hb]; kernel_rfl
      have hsk := Lib.hid ((HF.out 5).trans hb)
      clear hb
      have HSk := Lib.hid (half_skip top (id + 1) S 5)
      have HTk := Lib.hid (half_take top (id + 1) S 5)
      generalize half top (id + 1) S 5 = h at *
      go_wp2_with fail
      go_region_held3 (fun W => W.cell? ⟨w.heap.size, 0, none⟩ = some (.int .i64 top) ∧ W.cell? ⟨w.heap.size, 1, none⟩ = some (.bool (f 0)) ∧ W.cell? ⟨w.heap.size, 2, none⟩ = some (.bool (f 1)) ∧ W.cell? ⟨w.heap.size, 3, none⟩ = some (.bool (f 2)) ∧ W.cell? ⟨w.heap.size, 4, none⟩ = some (.bool (f 3)) ∧ W.cell? ⟨w.heap.size, 5, none⟩ = some (.bool (f 4)) ∧ W.cell? ⟨w.heap.size, 6, none⟩ = some (.bool (f 5)) ∧ W.cell? ⟨w.heap.size, 7, none⟩ = some (.bool (f 6)) ∧ W.cell? ⟨w.heap.size, 8, none⟩ = some (.bool (f 7)) ∧
        W.cell? ⟨w1.heap.size, 0, none⟩ = some (.int .i64 (id + 1)) ∧ W.cell? ⟨w1.heap.size, 1, none⟩ = some (.bool (h 0)) ∧ W.cell? ⟨w1.heap.size, 2, none⟩ = some (.bool (h 1)) ∧ W.cell? ⟨w1.heap.size, 3, none⟩ = some (.bool (h 2)) ∧ W.cell? ⟨w1.heap.size, 4, none⟩ = some (.bool (h 3)) ∧ W.cell? ⟨w1.heap.size, 5, none⟩ = some (.bool (h 4)) ∧ W.cell? ⟨w1.heap.size, 6, none⟩ = some (.bool (h 5)) ∧ W.cell? ⟨w1.heap.size, 7, none⟩ = some (.bool (h 6)) ∧ W.cell? ⟨w1.heap.size, 8, none⟩ = some (.bool (h 7))) (go_keep)
        (first | (go_at_call 34; refine (lowest_exact _ _ _ _ _ _ _ _ _ _ (by omega) (by omega)).mono ?_; rintro e w' ⟨rfl, rfl⟩))
      clear c0 c1 c2 c3 c4 c5 c6 c7 c8 d0 d1 d2 d3 d4 d5 d6 d7 d8
      cases b with
      | false =>
        go_wp2
        go_roundw
        case rel => exact ⟨6, by omega, rfl, ((e1.alloc _).alloc _).drew, ((e2.alloc _).alloc _).drew, by rw [HSk.out (.inl hsk.out)]; exact ((e3.alloc _).alloc _).drew, ((e4.alloc e4.size _).alloc (Nat.le_trans e4.size (by simp)) _).drew⟩
        case measure => simp [intOf]
      | true =>
        by_cases hneg : top - 8 + 5 - (id + 1 - 8) < 0
        · go_wp2
          all_goals
            go_roundw
            case rel => exact ⟨6, by omega, rfl, ((e1.alloc _).alloc _).drew, ((e2.alloc _).alloc _).drew, by rw [HSk.out (.inr (by omega))]; exact ((e3.alloc _).alloc _).drew, ((e4.alloc e4.size _).alloc (Nat.le_trans e4.size (by simp)) _).drew⟩
            case measure => simp [intOf]
        · obtain ⟨m, hm⟩ := Int.eq_ofNat_of_zero_le (show 0 ≤ top - 8 + 5 - (id + 1 - 8) by omega)
          have hm8 : m < 8 := by omega
          have hcell : wr.cell? ⟨w1.heap.size, 1 + (top - 8 + 5 - (id + 1 - 8)).toNat, none⟩ = some (.bool (h m)) := by
            rw [hm]
            exact (e3.cell (1 + m)).trans (winCells_at _ h m hm8)
          have e3' : (winCells (id + 1) h).setIfInBounds (1 + (top - 8 + 5 - (id + 1 - 8)).toNat) (.bool true) = winCells (id + 1) (half top (id + 1) S (5 + 1)) := by
            rw [hm]
            exact HTk.out m hsk.out (by omega) hm8
          have HMm := Lib.hid e3'
          clear e3' hm
          go_wp2
          all_goals
            go_roundw
            case rel => exact ⟨6, by omega, rfl, (((e1.far (by simp; omega) _).alloc _).alloc _).drew, (((e2.far (by simp; omega) _).alloc _).alloc _).drew, by rw [← HMm.out]; exact (((e3.set_ _ _).alloc _).alloc _).drew, (((e4.setCell (by simp; omega) _).alloc (by have := e4.size; simp [World.setCell]; omega) _).alloc (by have := e4.size; simp [World.setCell]; omega) _).drew⟩
            case measure => simp [intOf]
    · obtain ⟨b, hb⟩ : ∃ b, f 6 = b := ⟨_, rfl⟩
      have i0 : ∀ W : World, (Instr.index 32 (.agg #[.bool (f 0), .bool (f 1), .bool (f 2), .bool (f 3), .bool (f 4), .bool (f 5), .bool (f 6), .bool (f 7)]) (.int .i64 6)).run Try.prog W = .ok (.bool b) W := fun _ => by rw [← hb]; kernel_rfl
      have hsk := Lib.hid ((HF.out 6).trans hb)
      clear hb
      have HSk := Lib.hid (half_skip top (id + 1) S 6)
      have HTk := Lib.hid (half_take top (id + 1) S 6)
      generalize half top (id + 1) S 6 = h at *
      go_wp2_with fail
      go_region_held3 (fun W => W.cell? ⟨w.heap.size, 0, none⟩ = some (.int .i64 top) ∧ W.cell? ⟨w.heap.size, 1, none⟩ = some (.bool (f 0)) ∧ W.cell? ⟨w.heap.size, 2, none⟩ = some (.bool (f 1)) ∧ W.cell? ⟨w.heap.size, 3, none⟩ = some (.bool (f 2)) ∧ W.cell? ⟨w.heap.size, 4, none⟩ = some (.bool (f 3)) ∧ W.cell? ⟨w.heap.size, 5, none⟩ = some (.bool (f 4)) ∧ W.cell? ⟨w.heap.size, 6, none⟩ = some (.bool (f 5)) ∧ W.cell? ⟨w.heap.size, 7, none⟩ = some (.bool (f 6)) ∧ W.cell? ⟨w.heap.size, 8, none⟩ = some (.bool (f 7)) ∧
        W.cell? ⟨w1.heap.size, 0, none⟩ = some (.int .i64 (id + 1)) ∧ W.cell? ⟨w1.heap.size, 1, none⟩ = some (.bool (h 0)) ∧ W.cell? ⟨w1.heap.size, 2, none⟩ = some (.bool (h 1)) ∧ W.cell? ⟨w1.heap.size, 3, none⟩ = some (.bool (h 2)) ∧ W.cell? ⟨w1.heap.size, 4, none⟩ = some (.bool (h 3)) ∧ W.cell? ⟨w1.heap.size, 5, none⟩ = some (.bool (h 4)) ∧ W.cell? ⟨w1.heap.size, 6, none⟩ = some (.bool (h 5)) ∧ W.cell? ⟨w1.heap.size, 7, none⟩ = some (.bool (h 6)) ∧ W.cell? ⟨w1.heap.size, 8, none⟩ = some (.bool (h 7))) (go_keep)
        (first | (go_at_call 34; refine (lowest_exact _ _ _ _ _ _ _ _ _ _ (by omega) (by omega)).mono ?_; rintro e w' ⟨rfl, rfl⟩))
      clear c0 c1 c2 c3 c4 c5 c6 c7 c8 d0 d1 d2 d3 d4 d5 d6 d7 d8
      cases b with
      | false =>
        go_wp2
        go_roundw
        case rel => exact ⟨7, by omega, rfl, ((e1.alloc _).alloc _).drew, ((e2.alloc _).alloc _).drew, by rw [HSk.out (.inl hsk.out)]; exact ((e3.alloc _).alloc _).drew, ((e4.alloc e4.size _).alloc (Nat.le_trans e4.size (by simp)) _).drew⟩
        case measure => simp [intOf]
      | true =>
        by_cases hneg : top - 8 + 6 - (id + 1 - 8) < 0
        · go_wp2
          all_goals
            go_roundw
            case rel => exact ⟨7, by omega, rfl, ((e1.alloc _).alloc _).drew, ((e2.alloc _).alloc _).drew, by rw [HSk.out (.inr (by omega))]; exact ((e3.alloc _).alloc _).drew, ((e4.alloc e4.size _).alloc (Nat.le_trans e4.size (by simp)) _).drew⟩
            case measure => simp [intOf]
        · obtain ⟨m, hm⟩ := Int.eq_ofNat_of_zero_le (show 0 ≤ top - 8 + 6 - (id + 1 - 8) by omega)
          have hm8 : m < 8 := by omega
          have hcell : wr.cell? ⟨w1.heap.size, 1 + (top - 8 + 6 - (id + 1 - 8)).toNat, none⟩ = some (.bool (h m)) := by
            rw [hm]
            exact (e3.cell (1 + m)).trans (winCells_at _ h m hm8)
          have e3' : (winCells (id + 1) h).setIfInBounds (1 + (top - 8 + 6 - (id + 1 - 8)).toNat) (.bool true) = winCells (id + 1) (half top (id + 1) S (6 + 1)) := by
            rw [hm]
            exact HTk.out m hsk.out (by omega) hm8
          have HMm := Lib.hid e3'
          clear e3' hm
          go_wp2
          all_goals
            go_roundw
            case rel => exact ⟨7, by omega, rfl, (((e1.far (by simp; omega) _).alloc _).alloc _).drew, (((e2.far (by simp; omega) _).alloc _).alloc _).drew, by rw [← HMm.out]; exact (((e3.set_ _ _).alloc _).alloc _).drew, (((e4.setCell (by simp; omega) _).alloc (by have := e4.size; simp [World.setCell]; omega) _).alloc (by have := e4.size; simp [World.setCell]; omega) _).drew⟩
            case measure => simp [intOf]
    · obtain ⟨b, hb⟩ : ∃ b, f 7 = b := ⟨_, rfl⟩
      have i0 : ∀ W : World, (Instr.index 32 (.agg #[.bool (f 0), .bool (f 1), .bool (f 2), .bool (f 3), .bool (f 4), .bool (f 5), .bool (f 6), .bool (f 7)]) (.int .i64 7)).run Try.prog W = .ok (.bool b) W := fun _ => by rw [← hb]; kernel_rfl
      have hsk := Lib.hid ((HF.out 7).trans hb)
      clear hb
      have HSk := Lib.hid (half_skip top (id + 1) S 7)
      have HTk := Lib.hid (half_take top (id + 1) S 7)
      generalize half top (id + 1) S 7 = h at *
      go_wp2_with fail
      go_region_held3 (fun W => W.cell? ⟨w.heap.size, 0, none⟩ = some (.int .i64 top) ∧ W.cell? ⟨w.heap.size, 1, none⟩ = some (.bool (f 0)) ∧ W.cell? ⟨w.heap.size, 2, none⟩ = some (.bool (f 1)) ∧ W.cell? ⟨w.heap.size, 3, none⟩ = some (.bool (f 2)) ∧ W.cell? ⟨w.heap.size, 4, none⟩ = some (.bool (f 3)) ∧ W.cell? ⟨w.heap.size, 5, none⟩ = some (.bool (f 4)) ∧ W.cell? ⟨w.heap.size, 6, none⟩ = some (.bool (f 5)) ∧ W.cell? ⟨w.heap.size, 7, none⟩ = some (.bool (f 6)) ∧ W.cell? ⟨w.heap.size, 8, none⟩ = some (.bool (f 7)) ∧
        W.cell? ⟨w1.heap.size, 0, none⟩ = some (.int .i64 (id + 1)) ∧ W.cell? ⟨w1.heap.size, 1, none⟩ = some (.bool (h 0)) ∧ W.cell? ⟨w1.heap.size, 2, none⟩ = some (.bool (h 1)) ∧ W.cell? ⟨w1.heap.size, 3, none⟩ = some (.bool (h 2)) ∧ W.cell? ⟨w1.heap.size, 4, none⟩ = some (.bool (h 3)) ∧ W.cell? ⟨w1.heap.size, 5, none⟩ = some (.bool (h 4)) ∧ W.cell? ⟨w1.heap.size, 6, none⟩ = some (.bool (h 5)) ∧ W.cell? ⟨w1.heap.size, 7, none⟩ = some (.bool (h 6)) ∧ W.cell? ⟨w1.heap.size, 8, none⟩ = some (.bool (h 7))) (go_keep)
        (first | (go_at_call 34; refine (lowest_exact _ _ _ _ _ _ _ _ _ _ (by omega) (by omega)).mono ?_; rintro e w' ⟨rfl, rfl⟩))
      clear c0 c1 c2 c3 c4 c5 c6 c7 c8 d0 d1 d2 d3 d4 d5 d6 d7 d8
      cases b with
      | false =>
        go_wp2
        go_roundw
        case rel => exact ⟨8, by omega, rfl, ((e1.alloc _).alloc _).drew, ((e2.alloc _).alloc _).drew, by rw [HSk.out (.inl hsk.out)]; exact ((e3.alloc _).alloc _).drew, ((e4.alloc e4.size _).alloc (Nat.le_trans e4.size (by simp)) _).drew⟩
        case measure => simp [intOf]
      | true =>
        by_cases hneg : top - 8 + 7 - (id + 1 - 8) < 0
        · go_wp2
          all_goals
            go_roundw
            case rel => exact ⟨8, by omega, rfl, ((e1.alloc _).alloc _).drew, ((e2.alloc _).alloc _).drew, by rw [HSk.out (.inr (by omega))]; exact ((e3.alloc _).alloc _).drew, ((e4.alloc e4.size _).alloc (Nat.le_trans e4.size (by simp)) _).drew⟩
            case measure => simp [intOf]
        · obtain ⟨m, hm⟩ := Int.eq_ofNat_of_zero_le (show 0 ≤ top - 8 + 7 - (id + 1 - 8) by omega)
          have hm8 : m < 8 := by omega
          have hcell : wr.cell? ⟨w1.heap.size, 1 + (top - 8 + 7 - (id + 1 - 8)).toNat, none⟩ = some (.bool (h m)) := by
            rw [hm]
            exact (e3.cell (1 + m)).trans (winCells_at _ h m hm8)
          have e3' : (winCells (id + 1) h).setIfInBounds (1 + (top - 8 + 7 - (id + 1 - 8)).toNat) (.bool true) = winCells (id + 1) (half top (id + 1) S (7 + 1)) := by
            rw [hm]
            exact HTk.out m hsk.out (by omega) hm8
          have HMm := Lib.hid e3'
          clear e3' hm
          go_wp2
          all_goals
            go_roundw
            case rel => exact ⟨8, by omega, rfl, (((e1.far (by simp; omega) _).alloc _).alloc _).drew, (((e2.far (by simp; omega) _).alloc _).alloc _).drew, by rw [← HMm.out]; exact (((e3.set_ _ _).alloc _).alloc _).drew, (((e4.setCell (by simp; omega) _).alloc (by have := e4.size; simp [World.setCell]; omega) _).alloc (by have := e4.size; simp [World.setCell]; omega) _).drew⟩
            case measure => simp [intOf]
    · obtain ⟨m, hm⟩ := Int.eq_ofNat_of_zero_le (show 0 ≤ id - ((id + 1) - 8) by omega)
      have hm8 : m < 8 := by omega
      have hcell : wr.cell? ⟨w1.heap.size, 1 + (id - ((id + 1) - 8)).toNat, none⟩ = some (.bool (half top (id + 1) S 8 m)) := by
        rw [hm]
        exact (e3.cell (1 + m)).trans (winCells_at _ _ m hm8)
      have e5 : (winCells (id + 1) (half top (id + 1) S 8)).setIfInBounds (1 + (id - ((id + 1) - 8)).toNat) (.bool true) = winCells (id + 1) q := by
        rw [hm]
        exact (HEnd m).out (by omega) hm8
      generalize half top (id + 1) S 8 = h at *
      have E5 := Lib.hid e5
      clear e5 hm HEnd
      go_wp2_with fail
      refine (lowest_exact _ _ _ _ _ _ _ _ _ _ (by omega) (by omega)).mono ?_
      rintro e w' ⟨rfl, rfl⟩
      go_upto_region 15 with fail
      have F1 : Blk ((wr.setCell ⟨w1.heap.size, 1 + (id - ((id + 1) - 8)).toNat, none⟩ (.bool true)).alloc (.cells #[.int .i64 (id + 1), .bool (h 0), .bool (h 1), .bool (h 2), .bool (h 3), .bool (h 4), .bool (h 5), .bool (h 6), .bool (h 7)] 34)) w1.heap.size 34 (winCells (id + 1) q) := by
        rw [← E5.out]
        exact (e3.set_ _ _).alloc _
      have F2 := ((e2.far (p := ⟨w1.heap.size, 1 + (id - ((id + 1) - 8)).toNat, none⟩) (by simp; omega) (.bool true)).alloc (.cells #[.int .i64 (id + 1), .bool (h 0), .bool (h 1), .bool (h 2), .bool (h 3), .bool (h 4), .bool (h 5), .bool (h 6), .bool (h 7)] 34))
      have F3 := ((e4.setCell (p := ⟨w1.heap.size, 1 + (id - ((id + 1) - 8)).toNat, none⟩) (by simp; omega) (.bool true)).alloc (by have := e4.size; simp [World.setCell]; omega) (.cells #[.int .i64 (id + 1), .bool (h 0), .bool (h 1), .bool (h 2), .bool (h 3), .bool (h 4), .bool (h 5), .bool (h 6), .bool (h 7)] 34))
      generalize (wr.setCell ⟨w1.heap.size, 1 + (id - ((id + 1) - 8)).toNat, none⟩ (.bool true)).alloc (.cells #[.int .i64 (id + 1), .bool (h 0), .bool (h 1), .bool (h 2), .bool (h 3), .bool (h 4), .bool (h 5), .bool (h 6), .bool (h 7)] 34) = W5 at *
      clear c0 c1 c2 c3 c4 c5 c6 c7 c8 d0 d1 d2 d3 d4 d5 d6 d7 d8 hfr hcell E5 e1 e2 e3 e4
      obtain ⟨c0, c1, c2, c3, c4, c5, c6, c7, c8⟩ := winBlk F1
      obtain ⟨d0, d1, d2, d3, d4, d5, d6, d7, d8⟩ := winBlk F2
      have hfr := F2.frozen
      have hz9 := F2.lt
      clear F1 F2
      go_wp2
      exact bodyPost_ret (v := .tuple #[.agg (winCells (id + 1) q), .bool true, .int .i64 0]) (by simp [results, Try.results52, go_sem, winCells, *]) rfl ⟨rfl, by repeat (first | with_reducible exact F3 | refine Below.setCell ?_ (by simp) _)⟩

set_option maxHeartbeats 4000000 in
theorem wtake_in (top : Int) (S : Int → Bool) (id : Int) (w : World) (h : WOk top S) (h1 : 0 ≤ id) (h2 : id ≤ 1073741824) (hl : top - 8 ≤ id) (hs : S id = false) (hmx : ¬ top < id + 1) :
    Calls Try.prog 52 #[.agg (winCells top (shows top S)), .int .i64 id] w (Puts3 w (.agg (winCells top (shows top fun x => S x || x == id))) (.bool true) (.int .i64 0)) := by
  have C := fun w => Lib.hid (hs ▸ wseen_in top S id w h h1 h2 hl)
  have hlo := h.lo
  have hhi := h.hi
  have HEnd := fun m => Lib.hid (half_end top top S id m h.in_)
  have hf : ∀ k : Nat, S (top - 8 + k) = shows top S k := fun k => rfl
  have HF := Lib.hid hf
  clear hf h
  generalize shows top (fun x => S x || x == id) = q at *
  generalize shows top S = f at *
  have t1 : top ≤ top := by omega
  clear hs
  go_enter Try.func52, Try.ntmps52
  unfold winCells
  go_wp2_with fail
  refine (C _).out.mono ?_
  rintro e w1 ⟨rfl, hb⟩
  have hblk := ((Blk.new w 34 (winCells top f)).alloc (.cells #[.int .i64 0, .bool false, .bool false, .bool false, .bool false, .bool false, .bool false, .bool false, .bool false] 34)).below hb (by simp; omega)
  have hblk2 := (Blk.new (w.alloc (.cells (winCells top f) 34)) 34 (winCells 0 fun _ => false)).below hb (by simp)
  rw [World.size_alloc] at hblk2
  have hbel : Below w.heap.size w w1 := (((Below.refl _ _).alloc (Nat.le_refl _) _).alloc (by simp) _).trans (hb.mono (by simp; omega))
  obtain ⟨d0, d1, d2, d3, d4, d5, d6, d7, d8⟩ := winBlk hblk
  clear hb C
  have hz := hblk2.lt
  have hz0 := hblk.lt
  go_wp2
  go_loopw [33] (fun i wr => ∃ k : Nat, k ≤ 8 ∧ i = .int .i64 k ∧ Blk wr w.heap.size 34 (winCells top f) ∧ Blk wr (w.heap.size + 1) 34 (winCells 0 fun _ => false) ∧ Blk wr w1.heap.size 34 (winCells top (half top top S k)) ∧ Below w.heap.size w wr) (fun i _ => 8 - (intOf i).toNat)
  case atStart => exact ⟨0, by omega, rfl, hblk.alloc _, hblk2.alloc _, by rw [half_zero _ _ _ t1]; exact Blk.new _ _ _, hbel.alloc hbel.size _⟩
  case round =>
    obtain ⟨k, hk, rfl, e1, e2, e3, e4⟩ := hrel
    have y1 := e1.lt
    have y2 := e2.lt
    have y3 := e3.lt
    clear hblk hblk2 hbel d0 d1 d2 d3 d4 d5 d6 d7 d8
    obtain ⟨c0, c1, c2, c3, c4, c5, c6, c7, c8⟩ := winBlk e1
    obtain ⟨d0, d1, d2, d3, d4, d5, d6, d7, d8⟩ := winBlk e3
    have hfr := e3.frozen
    rcases (show k = 0 ∨ k = 1 ∨ k = 2 ∨ k = 3 ∨ k = 4 ∨ k = 5 ∨ k = 6 ∨ k = 7 ∨ k = 8 by omega) with rfl | rfl | rfl | rfl | rfl | rfl | rfl | rfl | rfl
    · obtain ⟨b, hb⟩ : ∃ b, f 0 = b := ⟨_, rfl⟩
      have i0 : ∀ W : World, (Instr.index 32 (.agg #[.bool (f 0), .bool (f 1), .bool (f 2), .bool (f 3), .bool (f 4), .bool (f 5), .bool (f 6), .bool (f 7)]) (.int .i64 0)).run Try.prog W = .ok (.bool b) W := fun _ => by rw [← hb]; kernel_rfl
      have hsk := Lib.hid ((HF.out 0).trans hb)
      clear hb
      have HSk := Lib.hid (half_skip top top S 0)
      have HTk := Lib.hid (half_take top top S 0)
      generalize half top top S 0 = h at *
      have z1 : IntKind.i64.wrap (top - 8) = top - 8 := IntWalk.i64_in _ (by omega)
      have z2 : IntKind.i64.wrap (top - 8 + 0) = top - 8 + 0 := IntWalk.i64_in _ (by omega)
      have z3 : IntKind.i64.wrap 0 = 0 := IntWalk.i64_in _ (by omega)
      go_wp2_with fail
      go_region_held3 (fun W => W.cell? ⟨w.heap.size, 0, none⟩ = some (.int .i64 top) ∧ W.cell? ⟨w.heap.size, 1, none⟩ = some (.bool (f 0)) ∧ W.cell? ⟨w.heap.size, 2, none⟩ = some (.bool (f 1)) ∧ W.cell? ⟨w.heap.size, 3, none⟩ = some (.bool (f 2)) ∧ W.cell? ⟨w.heap.size, 4, none⟩ = some (.bool (f 3)) ∧ W.cell? ⟨w.heap.size, 5, none⟩ = some (.bool (f 4)) ∧ W.cell? ⟨w.heap.size, 6, none⟩ = some (.bool (f 5)) ∧ W.cell? ⟨w.heap.size, 7, none⟩ = some (.bool (f 6)) ∧ W.cell? ⟨w.heap.size, 8, none⟩ = some (.bool (f 7)) ∧
        W.cell? ⟨w1.heap.size, 0, none⟩ = some (.int .i64 top) ∧ W.cell? ⟨w1.heap.size, 1, none⟩ = some (.bool (h 0)) ∧ W.cell? ⟨w1.heap.size, 2, none⟩ = some (.bool (h 1)) ∧ W.cell? ⟨w1.heap.size, 3, none⟩ = some (.bool (h 2)) ∧ W.cell? ⟨w1.heap.size, 4, none⟩ = some (.bool (h 3)) ∧ W.cell? ⟨w1.heap.size, 5, none⟩ = some (.bool (h 4)) ∧ W.cell? ⟨w1.heap.size, 6, none⟩ = some (.bool (h 5)) ∧ W.cell? ⟨w1.heap.size, 7, none⟩ = some (.bool (h 6)) ∧ W.cell? ⟨w1.heap.size, 8, none⟩ = some (.bool (h 7))) (go_keep)
        (first | (go_at_call 34; refine (lowest_exact _ _ _ _ _ _ _ _ _ _ (by omega) (by omega)).mono ?_; rintro e w' ⟨rfl, rfl⟩))
      clear c0 c1 c2 c3 c4 c5 c6 c7 c8 d0 d1 d2 d3 d4 d5 d6 d7 d8
      cases b with
      | false =>
        go_wp2
        go_roundw
        case rel => exact ⟨1, by omega, rfl, ((e1.alloc _).alloc _).drew, ((e2.alloc _).alloc _).drew, by rw [HSk.out (.inl hsk.out)]; exact ((e3.alloc _).alloc _).drew, ((e4.alloc e4.size _).alloc (Nat.le_trans e4.size (by simp)) _).drew⟩
        case measure => simp [intOf]
      | true =>
        have hcell : wr.cell? ⟨w1.heap.size, 1, none⟩ = some (.bool (h 0)) := e3.cell 1
        have e3' : (winCells top h).setIfInBounds 1 (.bool true) = winCells top (half top top S (0 + 1)) := by
          have := HTk.out 0 hsk.out rfl (by omega)
          simpa using this
        have HMm := Lib.hid e3'
        clear e3'
        go_wp2
        all_goals
          go_roundw
          case rel => exact ⟨1, by omega, rfl, (((e1.far (by simp; omega) _).alloc _).alloc _).drew, (((e2.far (by simp; omega) _).alloc _).alloc _).drew, by rw [← HMm.out]; exact (((e3.set_ _ _).alloc _).alloc _).drew, (((e4.setCell (by simp; omega) _).alloc (by have := e4.size; simp [World.setCell]; omega) _).alloc (by have := e4.size; simp [World.setCell]; omega) _).drew⟩
          case measure => simp [intOf]
    · obtain ⟨b, hb⟩ : ∃ b, f 1 = b := ⟨_, rfl⟩
      have i0 : ∀ W : World, (Instr.index 32 (.agg #[.bool (f 0), .bool (f 1), .bool (f 2), .bool (f 3), .bool (f 4), .bool (f 5), .bool (f 6), .bool (f 7)]) (.int .i64 1)).run Try.prog W = .ok (.bool b) W := fun _ => by rw [← hb]; kernel_rfl
      have hsk := Lib.hid ((HF.out 1).trans hb)
      clear hb
      have HSk := Lib.hid (half_skip top top S 1)
      have HTk := Lib.hid (half_take top top S 1)
      generalize half top top S 1 = h at *
      have z1 : IntKind.i64.wrap (top - 8) = top - 8 := IntWalk.i64_in _ (by omega)
      have z2 : IntKind.i64.wrap (top - 8 + 1) = top - 8 + 1 := IntWalk.i64_in _ (by omega)
      have z3 : IntKind.i64.wrap 1 = 1 := IntWalk.i64_in _ (by omega)
      go_wp2_with fail
      go_region_held3 (fun W => W.cell? ⟨w.heap.size, 0, none⟩ = some (.int .i64 top) ∧ W.cell? ⟨w.heap.size, 1, none⟩ = some (.bool (f 0)) ∧ W.cell? ⟨w.heap.size, 2, none⟩ = some (.bool (f 1)) ∧ W.cell? ⟨w.heap.size, 3, none⟩ = some (.bool (f 2)) ∧ W.cell? ⟨w.heap.size, 4, none⟩ = some (.bool (f 3)) ∧ W.cell? ⟨w.heap.size, 5, none⟩ = some (.bool (f 4)) ∧ W.cell? ⟨w.heap.size, 6, none⟩ = some (.bool (f 5)) ∧ W.cell? ⟨w.heap.size, 7, none⟩ = some (.bool (f 6)) ∧ W.cell? ⟨w.heap.size, 8, none⟩ = some (.bool (f 7)) ∧
        W.cell? ⟨w1.heap.size, 0, none⟩ = some (.int .i64 top) ∧ W.cell? ⟨w1.heap.size, 1, none⟩ = some (.bool (h 0)) ∧ W.cell? ⟨w1.heap.size, 2, none⟩ = some (.bool (h 1)) ∧ W.cell? ⟨w1.heap.size, 3, none⟩ = some (.bool (h 2)) ∧ W.cell? ⟨w1.heap.size, 4, none⟩ = some (.bool (h 3)) ∧ W.cell? ⟨w1.heap.size, 5, none⟩ = some (.bool (h 4)) ∧ W.cell? ⟨w1.heap.size, 6, none⟩ = some (.bool (h 5)) ∧ W.cell? ⟨w1.heap.size, 7, none⟩ = some (.bool (h 6)) ∧ W.cell? ⟨w1.heap.size, 8, none⟩ = some (.bool (h 7))) (go_keep)
        (first | (go_at_call 34; refine (lowest_exact _ _ _ _ _ _ _ _ _ _ (by omega) (by omega)).mono ?_; rintro e w' ⟨rfl, rfl⟩))
      clear c0 c1 c2 c3 c4 c5 c6 c7 c8 d0 d1 d2 d3 d4 d5 d6 d7 d8
      cases b with
      | false =>
        go_wp2
        go_roundw
        case rel => exact ⟨2, by omega, rfl, ((e1.alloc _).alloc _).drew, ((e2.alloc _).alloc _).drew, by rw [HSk.out (.inl hsk.out)]; exact ((e3.alloc _).alloc _).drew, ((e4.alloc e4.size _).alloc (Nat.le_trans e4.size (by simp)) _).drew⟩
        case measure => simp [intOf]
      | true =>
        have hm : (top - 8 + 1 - (top - 8)).toNat = 1 := by omega
        have hcell : wr.cell? ⟨w1.heap.size, 1 + (top - 8 + 1 - (top - 8)).toNat, none⟩ = some (.bool (h 1)) := by
          rw [hm]
          exact (e3.cell (1 + 1)).trans (winCells_at _ h 1 (by omega))
        have e3' : (winCells top h).setIfInBounds (1 + (top - 8 + 1 - (top - 8)).toNat) (.bool true) = winCells top (half top top S (1 + 1)) := by
          rw [hm]
          exact HTk.out 1 hsk.out rfl (by omega)
        have hpos : ¬ top - 8 + 1 - (top - 8) < 0 := by omega
        have HMm := Lib.hid e3'
        clear e3' hm
        go_wp2
        all_goals
          go_roundw
          case rel => exact ⟨2, by omega, rfl, (((e1.far (by simp; omega) _).alloc _).alloc _).drew, (((e2.far (by simp; omega) _).alloc _).alloc _).drew, by rw [← HMm.out]; exact (((e3.set_ _ _).alloc _).alloc _).drew, (((e4.setCell (by simp; omega) _).alloc (by have := e4.size; simp [World.setCell]; omega) _).alloc (by have := e4.size; simp [World.setCell]; omega) _).drew⟩
          case measure => simp [intOf]
    · obtain ⟨b, hb⟩ : ∃ b, f 2 = b := ⟨_, rfl⟩
      have i0 : ∀ W : World, (Instr.index 32 (.agg #[.bool (f 0), .bool (f 1), .bool (f 2), .bool (f 3), .bool (f 4), .bool (f 5), .bool (f 6), .bool (f 7)]) (.int .i64 2)).run Try.prog W = .ok (.bool b) W := fun _ => by rw [← hb]; kernel_rfl
      have hsk := Lib.hid ((HF.out 2).trans hb)
      clear hb
      have HSk := Lib.hid (half_skip top top S 2)
      have HTk := Lib.hid (half_take top top S 2)
      generalize half top top S 2 = h at *
      have z1 : IntKind.i64.wrap (top - 8) = top - 8 := IntWalk.i64_in _ (by omega)
      have z2 : IntKind.i64.wrap (top - 8 + 2) = top - 8 + 2 := IntWalk.i64_in _ (by omega)
      have z3 : IntKind.i64.wrap 2 = 2 := IntWalk.i64_in _ (by omega)
      go_wp2_with fail
      go_region_held3 (fun W => W.cell? ⟨w.heap.size, 0, none⟩ = some (.int .i64 top) ∧ W.cell? ⟨w.heap.size, 1, none⟩ = some (.bool (f 0)) ∧ W.cell? ⟨w.heap.size, 2, none⟩ = some (.bool (f 1)) ∧ W.cell? ⟨w.heap.size, 3, none⟩ = some (.bool (f 2)) ∧ W.cell? ⟨w.heap.size, 4, none⟩ = some (.bool (f 3)) ∧ W.cell? ⟨w.heap.size, 5, none⟩ = some (.bool (f 4)) ∧ W.cell? ⟨w.heap.size, 6, none⟩ = some (.bool (f 5)) ∧ W.cell? ⟨w.heap.size, 7, none⟩ = some (.bool (f 6)) ∧ W.cell? ⟨w.heap.size, 8, none⟩ = some (.bool (f 7)) ∧
        W.cell? ⟨w1.heap.size, 0, none⟩ = some (.int .i64 top) ∧ W.cell? ⟨w1.heap.size, 1, none⟩ = some (.bool (h 0)) ∧ W.cell? ⟨w1.heap.size, 2, none⟩ = some (.bool (h 1)) ∧ W.cell? ⟨w1.heap.size, 3, none⟩ = some (.bool (h 2)) ∧ W.cell? ⟨w1.heap.size, 4, none⟩ = some (.bool (h 3)) ∧ W.cell? ⟨w1.heap.size, 5, none⟩ = some (.bool (h 4)) ∧ W.cell? ⟨w1.heap.size, 6, none⟩ = some (.bool (h 5)) ∧ W.cell? ⟨w1.heap.size, 7, none⟩ = some (.bool (h 6)) ∧ W.cell? ⟨w1.heap.size, 8, none⟩ = some (.bool (h 7))) (go_keep)
        (first | (go_at_call 34; refine (lowest_exact _ _ _ _ _ _ _ _ _ _ (by omega) (by omega)).mono ?_; rintro e w' ⟨rfl, rfl⟩))
      clear c0 c1 c2 c3 c4 c5 c6 c7 c8 d0 d1 d2 d3 d4 d5 d6 d7 d8
      cases b with
      | false =>
        go_wp2
        go_roundw
        case rel => exact ⟨3, by omega, rfl, ((e1.alloc _).alloc _).drew, ((e2.alloc _).alloc _).drew, by rw [HSk.out (.inl hsk.out)]; exact ((e3.alloc _).alloc _).drew, ((e4.alloc e4.size _).alloc (Nat.le_trans e4.size (by simp)) _).drew⟩
        case measure => simp [intOf]
      | true =>
        have hm : (top - 8 + 2 - (top - 8)).toNat = 2 := by omega
        have hcell : wr.cell? ⟨w1.heap.size, 1 + (top - 8 + 2 - (top - 8)).toNat, none⟩ = some (.bool (h 2)) := by
          rw [hm]
          exact (e3.cell (1 + 2)).trans (winCells_at _ h 2 (by omega))
        have e3' : (winCells top h).setIfInBounds (1 + (top - 8 + 2 - (top - 8)).toNat) (.bool true) = winCells top (half top top S (2 + 1)) := by
          rw [hm]
          exact HTk.out 2 hsk.out rfl (by omega)
        have hpos : ¬ top - 8 + 2 - (top - 8) < 0 := by omega
        have HMm := Lib.hid e3'
        clear e3' hm
        go_wp2
        all_goals
          go_roundw
          case rel => exact ⟨3, by omega, rfl, (((e1.far (by simp; omega) _).alloc _).alloc _).drew, (((e2.far (by simp; omega) _).alloc _).alloc _).drew, by rw [← HMm.out]; exact (((e3.set_ _ _).alloc _).alloc _).drew, (((e4.setCell (by simp; omega) _).alloc (by have := e4.size; simp [World.setCell]; omega) _).alloc (by have := e4.size; simp [World.setCell]; omega) _).drew⟩
          case measure => simp [intOf]
    · obtain ⟨b, hb⟩ : ∃ b, f 3 = b := ⟨_, rfl⟩
      have i0 : ∀ W : World, (Instr.index 32 (.agg #[.bool (f 0), .bool (f 1), .bool (f 2), .bool (f 3), .bool (f 4), .bool (f 5), .bool (f 6), .bool (f 7)]) (.int .i64 3)).run Try.prog W = .ok (.bool b) W := fun _ => by rw [← hb]; kernel_rfl
      have hsk := Lib.hid ((HF.out 3).trans hb)
      clear hb
      have HSk := Lib.hid (half_skip top top S 3)
      have HTk := Lib.hid (half_take top top S 3)
      generalize half top top S 3 = h at *
      have z1 : IntKind.i64.wrap (top - 8) = top - 8 := IntWalk.i64_in _ (by omega)
      have z2 : IntKind.i64.wrap (top - 8 + 3) = top - 8 + 3 := IntWalk.i64_in _ (by omega)
      have z3 : IntKind.i64.wrap 3 = 3 := IntWalk.i64_in _ (by omega)
      go_wp2_with fail
      go_region_held3 (fun W => W.cell? ⟨w.heap.size, 0, none⟩ = some (.int .i64 top) ∧ W.cell? ⟨w.heap.size, 1, none⟩ = some (.bool (f 0)) ∧ W.cell? ⟨w.heap.size, 2, none⟩ = some (.bool (f 1)) ∧ W.cell? ⟨w.heap.size, 3, none⟩ = some (.bool (f 2)) ∧ W.cell? ⟨w.heap.size, 4, none⟩ = some (.bool (f 3)) ∧ W.cell? ⟨w.heap.size, 5, none⟩ = some (.bool (f 4)) ∧ W.cell? ⟨w.heap.size, 6, none⟩ = some (.bool (f 5)) ∧ W.cell? ⟨w.heap.size, 7, none⟩ = some (.bool (f 6)) ∧ W.cell? ⟨w.heap.size, 8, none⟩ = some (.bool (f 7)) ∧
        W.cell? ⟨w1.heap.size, 0, none⟩ = some (.int .i64 top) ∧ W.cell? ⟨w1.heap.size, 1, none⟩ = some (.bool (h 0)) ∧ W.cell? ⟨w1.heap.size, 2, none⟩ = some (.bool (h 1)) ∧ W.cell? ⟨w1.heap.size, 3, none⟩ = some (.bool (h 2)) ∧ W.cell? ⟨w1.heap.size, 4, none⟩ = some (.bool (h 3)) ∧ W.cell? ⟨w1.heap.size, 5, none⟩ = some (.bool (h 4)) ∧ W.cell? ⟨w1.heap.size, 6, none⟩ = some (.bool (h 5)) ∧ W.cell? ⟨w1.heap.size, 7, none⟩ = some (.bool (h 6)) ∧ W.cell? ⟨w1.heap.size, 8, none⟩ = some (.bool (h 7))) (go_keep)
        (first | (go_at_call 34; refine (lowest_exact _ _ _ _ _ _ _ _ _ _ (by omega) (by omega)).mono ?_; rintro e w' ⟨rfl, rfl⟩))
      clear c0 c1 c2 c3 c4 c5 c6 c7 c8 d0 d1 d2 d3 d4 d5 d6 d7 d8
      cases b with
      | false =>
        go_wp2
        go_roundw
        case rel => exact ⟨4, by omega, rfl, ((e1.alloc _).alloc _).drew, ((e2.alloc _).alloc _).drew, by rw [HSk.out (.inl hsk.out)]; exact ((e3.alloc _).alloc _).drew, ((e4.alloc e4.size _).alloc (Nat.le_trans e4.size (by simp)) _).drew⟩
        case measure => simp [intOf]
      | true =>
        have hm : (top - 8 + 3 - (top - 8)).toNat = 3 := by omega
        have hcell : wr.cell? ⟨w1.heap.size, 1 + (top - 8 + 3 - (top - 8)).toNat, none⟩ = some (.bool (h 3)) := by
          rw [hm]
          exact (e3.cell (1 + 3)).trans (winCells_at _ h 3 (by omega))
        have e3' : (winCells top h).setIfInBounds (1 + (top - 8 + 3 - (top - 8)).toNat) (.bool true) = winCells top (half top top S (3 + 1)) := by
          rw [hm]
          exact HTk.out 3 hsk.out rfl (by omega)
        have hpos : ¬ top - 8 + 3 - (top - 8) < 0 := by omega
        have HMm := Lib.hid e3'
        clear e3' hm
        go_wp2
        all_goals
          go_roundw
          case rel => exact ⟨4, by omega, rfl, (((e1.far (by simp; omega) _).alloc _).alloc _).drew, (((e2.far (by simp; omega) _).alloc _).alloc _).drew, by rw [← HMm.out]; exact (((e3.set_ _ _).alloc _).alloc _).drew, (((e4.setCell (by simp; omega) _).alloc (by have := e4.size; simp [World.setCell]; omega) _).alloc (by have := e4.size; simp [World.setCell]; omega) _).drew⟩
          case measure => simp [intOf]
    · obtain ⟨b, hb⟩ : ∃ b, f 4 = b := ⟨_, rfl⟩
      have i0 : ∀ W : World, (Instr.index 32 (.agg #[.bool (f 0), .bool (f 1), .bool (f 2), .bool (f 3), .bool (f 4), .bool (f 5), .bool (f 6), .bool (f 7)]) (.int .i64 4)).run Try.prog W = .ok (.bool b) W := fun _ => by rw [← hb]; kernel_rfl
      have hsk := Lib.hid ((HF.out 4).trans hb)
      clear hb
      have HSk := Lib.hid (half_skip top top S 4)
      have HTk := Lib.hid (half_take top top S 4)
      generalize half top top S 4 = h at *
      have z1 : IntKind.i64.wrap (top - 8) = top - 8 := IntWalk.i64_in _ (by omega)
      have z2 : IntKind.i64.wrap (top - 8 + 4) = top - 8 + 4 := IntWalk.i64_in _ (by omega)
      have z3 : IntKind.i64.wrap 4 = 4 := IntWalk.i64_in _ (by omega)
      go_wp2_with fail
      go_region_held3 (fun W => W.cell? ⟨w.heap.size, 0, none⟩ = some (.int .i64 top) ∧ W.cell? ⟨w.heap.size, 1, none⟩ = some (.bool (f 0)) ∧ W.cell? ⟨w.heap.size, 2, none⟩ = some (.bool (f 1)) ∧ W.cell? ⟨w.heap.size, 3, none⟩ = some (.bool (f 2)) ∧ W.cell? ⟨w.heap.size, 4, none⟩ = some (.bool (f 3)) ∧ W.cell? ⟨w.heap.size, 5, none⟩ = some (.bool (f 4)) ∧ W.cell? ⟨w.heap.size, 6, none⟩ = some (.bool (f 5)) ∧ W.cell? ⟨w.heap.size, 7, none⟩ = some (.bool (f 6)) ∧ W.cell? ⟨w.heap.size, 8, none⟩ = some (.bool (f 7)) ∧
        W.cell? ⟨w1.heap.size, 0, none⟩ = some (.int .i64 top) ∧ W.cell? ⟨w1.heap.size, 1, none⟩ = some (.bool (h 0)) ∧ W.cell? ⟨w1.heap.size, 2, none⟩ = some (.bool (h 1)) ∧ W.cell? ⟨w1.heap.size, 3, none⟩ = some (.bool (h 2)) ∧ W.cell? ⟨w1.heap.size, 4, none⟩ = some (.bool (h 3)) ∧ W.cell? ⟨w1.heap.size, 5, none⟩ = some (.bool (h 4)) ∧ W.cell? ⟨w1.heap.size, 6, none⟩ = some (.bool (h 5)) ∧ W.cell? ⟨w1.heap.size, 7, none⟩ = some (.bool (h 6)) ∧ W.cell? ⟨w1.heap.size, 8, none⟩ = some (.bool (h 7))) (go_keep)
        (first | (go_at_call 34; refine (lowest_exact _ _ _ _ _ _ _ _ _ _ (by omega) (by omega)).mono ?_; rintro e w' ⟨rfl, rfl⟩))
      clear c0 c1 c2 c3 c4 c5 c6 c7 c8 d0 d1 d2 d3 d4 d5 d6 d7 d8
      cases b with
      | false =>
        go_wp2
        go_roundw
        case rel => exact ⟨5, by omega, rfl, ((e1.alloc _).alloc _).drew, ((e2.alloc _).alloc _).drew, by rw [HSk.out (.inl hsk.out)]; exact ((e3.alloc _).alloc _).drew, ((e4.alloc e4.size _).alloc (Nat.le_trans e4.size (by simp)) _).drew⟩
        case measure => simp [intOf]
      | true =>
        have hm : (top - 8 + 4 - (top - 8)).toNat = 4 := by omega
        have hcell : wr.cell? ⟨w1.heap.size, 1 + (top - 8 + 4 - (top - 8)).toNat, none⟩ = some (.bool (h 4)) := by
          rw [hm]
          exact (e3.cell (1 + 4)).trans (winCells_at _ h 4 (by omega))
        have e3' : (winCells top h).setIfInBounds (1 + (top - 8 + 4 - (top - 8)).toNat) (.bool true) = winCells top (half top top S (4 + 1)) := by
          rw [hm]
          exact HTk.out 4 hsk.out rfl (by omega)
        have hpos : ¬ top - 8 + 4 - (top - 8) < 0 := by omega
        have HMm := Lib.hid e3'
        clear e3' hm
        go_wp2
        all_goals
          go_roundw
          case rel => exact ⟨5, by omega, rfl, (((e1.far (by simp; omega) _).alloc _).alloc _).drew, (((e2.far (by simp; omega) _).alloc _).alloc _).drew, by rw [← HMm.out]; exact (((e3.set_ _ _).alloc _).alloc _).drew, (((e4.setCell (by simp; omega) _).alloc (by have := e4.size; simp [World.setCell]; omega) _).alloc (by have := e4.size; simp [World.setCell]; omega) _).drew⟩
          case measure => simp [intOf]
    · obtain ⟨b, hb⟩ : ∃ b, f 5 = b := ⟨_, rfl⟩
      have i0 : ∀ W : World, (Instr.index 32 (.agg #[.bool (f 0), .bool (f 1), .bool (f 2), .bool (f 3), .bool (f 4), .bool (f 5), .bool (f 6), .bool (f 7)]) (.int .i64 5)).run Try.prog W = .ok (.bool b) W := fun _ => by rw [← hb]; kernel_rfl
      have hsk := Lib.hid ((HF.out 5).trans hb)
      clear hb
      have HSk := Lib.hid (half_skip top top S 5)
      have HTk := Lib.hid (half_take top top S 5)
      generalize half top top S 5 = h at *
      have z1 : IntKind.i64.wrap (top - 8) = top - 8 := IntWalk.i64_in _ (by omega)
      have z2 : IntKind.i64.wrap (top - 8 + 5) = top - 8 + 5 := IntWalk.i64_in _ (by omega)
      have z3 : IntKind.i64.wrap 5 = 5 := IntWalk.i64_in _ (by omega)
      go_wp2_with fail
      go_region_held3 (fun W => W.cell? ⟨w.heap.size, 0, none⟩ = some (.int .i64 top) ∧ W.cell? ⟨w.heap.size, 1, none⟩ = some (.bool (f 0)) ∧ W.cell? ⟨w.heap.size, 2, none⟩ = some (.bool (f 1)) ∧ W.cell? ⟨w.heap.size, 3, none⟩ = some (.bool (f 2)) ∧ W.cell? ⟨w.heap.size, 4, none⟩ = some (.bool (f 3)) ∧ W.cell? ⟨w.heap.size, 5, none⟩ = some (.bool (f 4)) ∧ W.cell? ⟨w.heap.size, 6, none⟩ = some (.bool (f 5)) ∧ W.cell? ⟨w.heap.size, 7, none⟩ = some (.bool (f 6)) ∧ W.cell? ⟨w.heap.size, 8, none⟩ = some (.bool (f 7)) ∧
        W.cell? ⟨w1.heap.size, 0, none⟩ = some (.int .i64 top) ∧ W.cell? ⟨w1.heap.size, 1, none⟩ = some (.bool (h 0)) ∧ W.cell? ⟨w1.heap.size, 2, none⟩ = some (.bool (h 1)) ∧ W.cell? ⟨w1.heap.size, 3, none⟩ = some (.bool (h 2)) ∧ W.cell? ⟨w1.heap.size, 4, none⟩ = some (.bool (h 3)) ∧ W.cell? ⟨w1.heap.size, 5, none⟩ = some (.bool (h 4)) ∧ W.cell? ⟨w1.heap.size, 6, none⟩ = some (.bool (h 5)) ∧ W.cell? ⟨w1.heap.size, 7, none⟩ = some (.bool (h 6)) ∧ W.cell? ⟨w1.heap.size, 8, none⟩ = some (.bool (h 7))) (go_keep)
        (first | (go_at_call 34; refine (lowest_exact _ _ _ _ _ _ _ _ _ _ (by omega) (by omega)).mono ?_; rintro e w' ⟨rfl, rfl⟩))
      clear c0 c1 c2 c3 c4 c5 c6 c7 c8 d0 d1 d2 d3 d4 d5 d6 d7 d8
      cases b with
      | false =>
        go_wp2
        go_roundw
        case rel => exact ⟨6, by omega, rfl, ((e1.alloc _).alloc _).drew, ((e2.alloc _).alloc _).drew, by rw [HSk.out (.inl hsk.out)]; exact ((e3.alloc _).alloc _).drew, ((e4.alloc e4.size _).alloc (Nat.le_trans e4.size (by simp)) _).drew⟩
        case measure => simp [intOf]
      | true =>
        have hm : (top - 8 + 5 - (top - 8)).toNat = 5 := by omega
        have hcell : wr.cell? ⟨w1.heap.size, 1 + (top - 8 + 5 - (top - 8)).toNat, none⟩ = some (.bool (h 5)) := by
          rw [hm]
          exact (e3.cell (1 + 5)).trans (winCells_at _ h 5 (by omega))
        have e3' : (winCells top h).setIfInBounds (1 + (top - 8 + 5 - (top - 8)).toNat) (.bool true) = winCells top (half top top S (5 + 1)) := by
          rw [hm]
          exact HTk.out 5 hsk.out rfl (by omega)
        have hpos : ¬ top - 8 + 5 - (top - 8) < 0 := by omega
        have HMm := Lib.hid e3'
        clear e3' hm
        go_wp2
        all_goals
          go_roundw
          case rel => exact ⟨6, by omega, rfl, (((e1.far (by simp; omega) _).alloc _).alloc _).drew, (((e2.far (by simp; omega) _).alloc _).alloc _).drew, by rw [← HMm.out]; exact (((e3.set_ _ _).alloc _).alloc _).drew, (((e4.setCell (by simp; omega) _).alloc (by have := e4.size; simp [World.setCell]; omega) _).alloc (by have := e4.size; simp [World.setCell]; omega) _).drew⟩
          case measure => simp [intOf]
    · obtain ⟨b, hb⟩ : ∃ b, f 6 = b := ⟨_, rfl⟩
      have i0 : ∀ W : World, (Instr.index 32 (.agg #[.bool (f 0), .bool (f 1), .bool (f 2), .bool (f 3), .bool (f 4), .bool (f 5), .bool (f 6), .bool (f 7)]) (.int .i64 6)).run Try.prog W = .ok (.bool b) W := fun _ => by rw [← hb]; kernel_rfl
      have hsk := Lib.hid ((HF.out 6).trans hb)
      clear hb
      have HSk := Lib.hid (half_skip top top S 6)
      have HTk := Lib.hid (half_take top top S 6)
      generalize half top top S 6 = h at *
      have z1 : IntKind.i64.wrap (top - 8) = top - 8 := IntWalk.i64_in _ (by omega)
      have z2 : IntKind.i64.wrap (top - 8 + 6) = top - 8 + 6 := IntWalk.i64_in _ (by omega)
      have z3 : IntKind.i64.wrap 6 = 6 := IntWalk.i64_in _ (by omega)
      go_wp2_with fail
      go_region_held3 (fun W => W.cell? ⟨w.heap.size, 0, none⟩ = some (.int .i64 top) ∧ W.cell? ⟨w.heap.size, 1, none⟩ = some (.bool (f 0)) ∧ W.cell? ⟨w.heap.size, 2, none⟩ = some (.bool (f 1)) ∧ W.cell? ⟨w.heap.size, 3, none⟩ = some (.bool (f 2)) ∧ W.cell? ⟨w.heap.size, 4, none⟩ = some (.bool (f 3)) ∧ W.cell? ⟨w.heap.size, 5, none⟩ = some (.bool (f 4)) ∧ W.cell? ⟨w.heap.size, 6, none⟩ = some (.bool (f 5)) ∧ W.cell? ⟨w.heap.size, 7, none⟩ = some (.bool (f 6)) ∧ W.cell? ⟨w.heap.size, 8, none⟩ = some (.bool (f 7)) ∧
        W.cell? ⟨w1.heap.size, 0, none⟩ = some (.int .i64 top) ∧ W.cell? ⟨w1.heap.size, 1, none⟩ = some (.bool (h 0)) ∧ W.cell? ⟨w1.heap.size, 2, none⟩ = some (.bool (h 1)) ∧ W.cell? ⟨w1.heap.size, 3, none⟩ = some (.bool (h 2)) ∧ W.cell? ⟨w1.heap.size, 4, none⟩ = some (.bool (h 3)) ∧ W.cell? ⟨w1.heap.size, 5, none⟩ = some (.bool (h 4)) ∧ W.cell? ⟨w1.heap.size, 6, none⟩ = some (.bool (h 5)) ∧ W.cell? ⟨w1.heap.size, 7, none⟩ = some (.bool (h 6)) ∧ W.cell? ⟨w1.heap.size, 8, none⟩ = some (.bool (h 7))) (go_keep)
        (first | (go_at_call 34; refine (lowest_exact _ _ _ _ _ _ _ _ _ _ (by omega) (by omega)).mono ?_; rintro e w' ⟨rfl, rfl⟩))
      clear c0 c1 c2 c3 c4 c5 c6 c7 c8 d0 d1 d2 d3 d4 d5 d6 d7 d8
      cases b with
      | false =>
        go_wp2
        go_roundw
        case rel => exact ⟨7, by omega, rfl, ((e1.alloc _).alloc _).drew, ((e2.alloc _).alloc _).drew, by rw [HSk.out (.inl hsk.out)]; exact ((e3.alloc _).alloc _).drew, ((e4.alloc e4.size _).alloc (Nat.le_trans e4.size (by simp)) _).drew⟩
        case measure => simp [intOf]
      | true =>
        have hm : (top - 8 + 6 - (top - 8)).toNat = 6 := by omega
        have hcell : wr.cell? ⟨w1.heap.size, 1 + (top - 8 + 6 - (top - 8)).toNat, none⟩ = some (.bool (h 6)) := by
          rw [hm]
          exact (e3.cell (1 + 6)).trans (winCells_at _ h 6 (by omega))
        have e3' : (winCells top h).setIfInBounds (1 + (top - 8 + 6 - (top - 8)).toNat) (.bool true) = winCells top (half top top S (6 + 1)) := by
          rw [hm]
          exact HTk.out 6 hsk.out rfl (by omega)
        have hpos : ¬ top - 8 + 6 - (top - 8) < 0 := by omega
        have HMm := Lib.hid e3'
        clear e3' hm
        go_wp2
        all_goals
          go_roundw
          case rel => exact ⟨7, by omega, rfl, (((e1.far (by simp; omega) _).alloc _).alloc _).drew, (((e2.far (by simp; omega) _).alloc _).alloc _).drew, by rw [← HMm.out]; exact (((e3.set_ _ _).alloc _).alloc _).drew, (((e4.setCell (by simp; omega) _).alloc (by have := e4.size; simp [World.setCell]; omega) _).alloc (by have := e4.size; simp [World.setCell]; omega) _).drew⟩
          case measure => simp [intOf]
    · obtain ⟨b, hb⟩ : ∃ b, f 7 = b := ⟨_, rfl⟩
      have i0 : ∀ W : World, (Instr.index 32 (.agg #[.bool (f 0), .bool (f 1), .bool (f 2), .bool (f 3), .bool (f 4), .bool (f 5), .bool (f 6), .bool (f 7)]) (.int .i64 7)).run Try.prog W = .ok (.bool b) W := fun _ => by rw [← hb]; kernel_rfl
      have hsk := Lib.hid ((HF.out 7).trans hb)
      clear hb
      have HSk := Lib.hid (half_skip top top S 7)
      have HTk := Lib.hid (half_take top top S 7)
      generalize half top top S 7 = h at *
      have z1 : IntKind.i64.wrap (top - 8) = top - 8 := IntWalk.i64_in _ (by omega)
      have z2 : IntKind.i64.wrap (top - 8 + 7) = top - 8 + 7 := IntWalk.i64_in _ (by omega)
      have z3 : IntKind.i64.wrap 7 = 7 := IntWalk.i64_in _ (by omega)
      go_wp2_with fail
      go_region_held3 (fun W => W.cell? ⟨w.heap.size, 0, none⟩ = some (.int .i64 top) ∧ W.cell? ⟨w.heap.size, 1, none⟩ = some (.bool (f 0)) ∧ W.cell? ⟨w.heap.size, 2, none⟩ = some (.bool (f 1)) ∧ W.cell? ⟨w.heap.size, 3, none⟩ = some (.bool (f 2)) ∧ W.cell? ⟨w.heap.size, 4, none⟩ = some (.bool (f 3)) ∧ W.cell? ⟨w.heap.size, 5, none⟩ = some (.bool (f 4)) ∧ W.cell? ⟨w.heap.size, 6, none⟩ = some (.bool (f 5)) ∧ W.cell? ⟨w.heap.size, 7, none⟩ = some (.bool (f 6)) ∧ W.cell? ⟨w.heap.size, 8, none⟩ = some (.bool (f 7)) ∧
        W.cell? ⟨w1.heap.size, 0, none⟩ = some (.int .i64 top) ∧ W.cell? ⟨w1.heap.size, 1, none⟩ = some (.bool (h 0)) ∧ W.cell? ⟨w1.heap.size, 2, none⟩ = some (.bool (h 1)) ∧ W.cell? ⟨w1.heap.size, 3, none⟩ = some (.bool (h 2)) ∧ W.cell? ⟨w1.heap.size, 4, none⟩ = some (.bool (h 3)) ∧ W.cell? ⟨w1.heap.size, 5, none⟩ = some (.bool (h 4)) ∧ W.cell? ⟨w1.heap.size, 6, none⟩ = some (.bool (h 5)) ∧ W.cell? ⟨w1.heap.size, 7, none⟩ = some (.bool (h 6)) ∧ W.cell? ⟨w1.heap.size, 8, none⟩ = some (.bool (h 7))) (go_keep)
        (first | (go_at_call 34; refine (lowest_exact _ _ _ _ _ _ _ _ _ _ (by omega) (by omega)).mono ?_; rintro e w' ⟨rfl, rfl⟩))
      clear c0 c1 c2 c3 c4 c5 c6 c7 c8 d0 d1 d2 d3 d4 d5 d6 d7 d8
      cases b with
      | false =>
        go_wp2
        go_roundw
        case rel => exact ⟨8, by omega, rfl, ((e1.alloc _).alloc _).drew, ((e2.alloc _).alloc _).drew, by rw [HSk.out (.inl hsk.out)]; exact ((e3.alloc _).alloc _).drew, ((e4.alloc e4.size _).alloc (Nat.le_trans e4.size (by simp)) _).drew⟩
        case measure => simp [intOf]
      | true =>
        have hm : (top - 8 + 7 - (top - 8)).toNat = 7 := by omega
        have hcell : wr.cell? ⟨w1.heap.size, 1 + (top - 8 + 7 - (top - 8)).toNat, none⟩ = some (.bool (h 7)) := by
          rw [hm]
          exact (e3.cell (1 + 7)).trans (winCells_at _ h 7 (by omega))
        have e3' : (winCells top h).setIfInBounds (1 + (top - 8 + 7 - (top - 8)).toNat) (.bool true) = winCells top (half top top S (7 + 1)) := by
          rw [hm]
          exact HTk.out 7 hsk.out rfl (by omega)
        have hpos : ¬ top - 8 + 7 - (top - 8) < 0 := by omega
        have HMm := Lib.hid e3'
        clear e3' hm
        go_wp2
        all_goals
          go_roundw
          case rel => exact ⟨8, by omega, rfl, (((e1.far (by simp; omega) _).alloc _).alloc _).drew, (((e2.far (by simp; omega) _).alloc _).alloc _).drew, by rw [← HMm.out]; exact (((e3.set_ _ _).alloc _).alloc _).drew, (((e4.setCell (by simp; omega) _).alloc (by have := e4.size; simp [World.setCell]; omega) _).alloc (by have := e4.size; simp [World.setCell]; omega) _).drew⟩
          case measure => simp [intOf]
    · obtain ⟨m, hm⟩ := Int.eq_ofNat_of_zero_le (show 0 ≤ id - (top - 8) by omega)
      have hm8 : m < 8 := by omega
      have hcell : wr.cell? ⟨w1.heap.size, 1 + (id - (top - 8)).toNat, none⟩ = some (.bool (half top top S 8 m)) := by
        rw [hm]
        exact (e3.cell (1 + m)).trans (winCells_at _ _ m hm8)
      have e5 : (winCells top (half top top S 8)).setIfInBounds (1 + (id - (top - 8)).toNat) (.bool true) = winCells top q := by
        rw [hm]
        exact (HEnd m).out (by omega) hm8
      generalize half top top S 8 = h at *
      have E5 := Lib.hid e5
      clear e5 hm HEnd
      go_wp2_with fail
      refine (lowest_exact _ _ _ _ _ _ _ _ _ _ (by omega) (by omega)).mono ?_
      rintro e w' ⟨rfl, rfl⟩
      go_upto_region 15 with fail
      have F1 : Blk ((wr.setCell ⟨w1.heap.size, 1 + (id - (top - 8)).toNat, none⟩ (.bool true)).alloc (.cells #[.int .i64 top, .bool (h 0), .bool (h 1), .bool (h 2), .bool (h 3), .bool (h 4), .bool (h 5), .bool (h 6), .bool (h 7)] 34)) w1.heap.size 34 (winCells top q) := by
        rw [← E5.out]
        exact (e3.set_ _ _).alloc _
      have F2 := ((e2.far (p := ⟨w1.heap.size, 1 + (id - (top - 8)).toNat, none⟩) (by simp; omega) (.bool true)).alloc (.cells #[.int .i64 top, .bool (h 0), .bool (h 1), .bool (h 2), .bool (h 3), .bool (h 4), .bool (h 5), .bool (h 6), .bool (h 7)] 34))
      have F3 := ((e4.setCell (p := ⟨w1.heap.size, 1 + (id - (top - 8)).toNat, none⟩) (by simp; omega) (.bool true)).alloc (by have := e4.size; simp [World.setCell]; omega) (.cells #[.int .i64 top, .bool (h 0), .bool (h 1), .bool (h 2), .bool (h 3), .bool (h 4), .bool (h 5), .bool (h 6), .bool (h 7)] 34))
      generalize (wr.setCell ⟨w1.heap.size, 1 + (id - (top - 8)).toNat, none⟩ (.bool true)).alloc (.cells #[.int .i64 top, .bool (h 0), .bool (h 1), .bool (h 2), .bool (h 3), .bool (h 4), .bool (h 5), .bool (h 6), .bool (h 7)] 34) = W5 at *
      clear c0 c1 c2 c3 c4 c5 c6 c7 c8 d0 d1 d2 d3 d4 d5 d6 d7 d8 hfr hcell E5 e1 e2 e3 e4
      obtain ⟨c0, c1, c2, c3, c4, c5, c6, c7, c8⟩ := winBlk F1
      obtain ⟨d0, d1, d2, d3, d4, d5, d6, d7, d8⟩ := winBlk F2
      have hfr := F2.frozen
      have hz9 := F2.lt
      clear F1 F2
      go_wp2
      exact bodyPost_ret (v := .tuple #[.agg (winCells top q), .bool true, .int .i64 0]) (by simp [results, Try.results52, go_sem, winCells, *]) rfl ⟨rfl, by repeat (first | with_reducible exact F3 | refine Below.setCell ?_ (by simp) _)⟩

/-- Take at a new id, in one contract -/
theorem wtake_fresh (top : Int) (S : Int → Bool) (id : Int) (w : World) (h : WOk top S) (h1 : 0 ≤ id) (h2 : id ≤ 1073741824) (hl : top - 8 ≤ id) (hs : S id = false) (t : Int) (ht : max top (id + 1) = t) :
    Calls Try.prog 52 #[.agg (winCells top (shows top S)), .int .i64 id] w (Puts3 w (.agg (winCells t (shows t fun x => S x || x == id))) (.bool true) (.int .i64 0)) := by
  by_cases hmx : top < id + 1
  · obtain rfl : t = id + 1 := by omega
    exact wtake_up top S id w h h1 h2 hl hs hmx
  · obtain rfl : t = top := by omega
    exact wtake_in t S id w h h1 h2 hl hs hmx

end Go.Proofs.Ytjmncbfmjeeneaa
