/- 'tape.first': the first record that bytes begin with. -/
import Derived.Test.YtcgamaponeglhaaTape
import Derived.Test.YtcgamaponeglhaaDecode
namespace Go.Proofs.Ytcgamaponeglhaa
open Go.RowKit

/-- how many bytes a frame's payload and length are said to have -/
def saidLen (d : List Int) : Nat := (2 + d.getD 0 0 * 256 + d.getD 1 0).toNat
/-- what 'first' answers -/
def firstOf (d : List Int) : Rc × Nat :=
  if d.length < 2 then (Rc.zero, 0)
  else if d.length < saidLen d + 4 then (Rc.zero, 0)
  else if valOf ((d.drop (saidLen d)).take 4) ≠ sumOf (d.take (saidLen d)) then (Rc.zero, 0)
  else if (decode ((d.drop 2).take (saidLen d - 2))).1 ≠ 0 then (Rc.zero, 0)
  else ((decode ((d.drop 2).take (saidLen d - 2))).2, saidLen d + 4)

theorem Reads.sub {w : World} {B n b off : Nat} {d : List Int} (h : Reads w B 1 (some ⟨b, off, none⟩) n (d.map (Value.int .u8))) {j k : Nat} (hk : j + k ≤ n) :
    Reads w B 1 (some ⟨b, off + j, none⟩) k (((d.drop j).take k).map (Value.int .u8)) := by
  have hl : d.length = n := by simpa using h.1
  refine ⟨by simp; omega, fun h0 => ?_⟩
  obtain ⟨ad, e, hb, hc⟩ := h.2 (by omega)
  injection e with e
  subst e
  refine ⟨_, rfl, hb, fun i u hu => ?_⟩
  rw [List.getElem?_map, List.getElem?_take] at hu
  split at hu
  · rename_i hi
    have := hc (j + i) u (by rw [List.getElem?_map]; simpa [List.getElem?_drop] using hu)
    have e2 : (⟨b, off, none⟩ : Addr).add (j + i) = (⟨b, off + j, none⟩ : Addr).add i := by
      unfold Addr.add
      by_cases h1 : j + i = 0 <;> by_cases h2 : i = 0 <;> simp [h1, h2] <;> omega
    rw [e2] at this
    exact this
  · simp at hu

def FirstPost (w : World) (t : Rc × Nat) (e : Ending) (w' : World) : Prop := e = .returned (.tuple #[t.1.val, .int .i64 t.2]) ∧ Below w.heap.size w w'

set_option maxRecDepth 100000 in
theorem first_short0 (A : Option Addr) (n c : Nat) (w : World) (h2 : n < 2) : Calls Try.prog 34 #[.slice A n c] w (FirstPost w (Rc.zero, 0)) := by
  have hI : (n : Int) < 2 := by omega
  have FIN := Lib.hid (fun W hb => (show FirstPost w (Rc.zero, 0) (.returned (.tuple #[Rc.zero.val, .int .i64 0])) W from ⟨rfl, hb⟩))
  generalize FirstPost w (Rc.zero, 0) = POST at *
  have hbel := (Below.refl w.heap.size w).alloc (Nat.le_refl _) (.cells Rc.zero.cells 29)
  unfold Rc.cells Rc.zero Ev.zero at hbel
  go_enter Try.func34, Try.ntmps34
  go_wp2
  exact bodyPost_ret (v := .tuple #[Rc.zero.val, .int .i64 0]) (by simp [results, Try.results34, go_sem, Rc.val, Rc.cells, Rc.zero, Ev.zero]) rfl (FIN.out _ (by exact hbel))

set_option maxRecDepth 100000 in
set_option maxHeartbeats 1000000 in
theorem first_short1 (b off n c M : Nat) (x y : Int) (w : World) (q0 : w.cell? ⟨b, off, none⟩ = some (.int .u8 x)) (q1 : w.cell? ⟨b, off + 1, none⟩ = some (.int .u8 y)) (z00 : 0 ≤ x) (z01 : x ≤ 255) (z10 : 0 ≤ y) (z11 : y ≤ 255)
    (hM0 : (M : Int) = 2 + x * 256 + y) (hn2 : n ≤ 100000) (h2 : ¬ n < 2) (h4 : n < M + 4) : Calls Try.prog 34 #[.slice (some ⟨b, off, none⟩) n c] w (FirstPost w (Rc.zero, 0)) := by
  have i1 : IntKind.i64.wrap (x * 256) = x * 256 := IntWalk.i64_in _ (by omega)
  have i2 : IntKind.i64.wrap (2 + x * 256) = 2 + x * 256 := IntWalk.i64_in _ (by omega)
  have i3 : IntKind.i64.wrap (2 + x * 256 + y) = M := by rw [← hM0]; exact IntWalk.i64_in _ (by omega)
  have hnI : (2 : Int) ≤ (n : Int) := by omega
  have hbw : b < w.heap.size := lt_of_cell q0
  have hM3 : M ≤ 65537 := by omega
  have hI : (n : Int) < (M : Int) + 4 := by omega
  have FIN := Lib.hid (fun W hb => (show FirstPost w (Rc.zero, 0) (.returned (.tuple #[Rc.zero.val, .int .i64 0])) W from ⟨rfl, hb⟩))
  generalize FirstPost w (Rc.zero, 0) = POST at *
  have hbel := (Below.refl w.heap.size w).alloc (Nat.le_refl _) (.cells Rc.zero.cells 29)
  unfold Rc.cells Rc.zero Ev.zero at hbel
  clear hM0
  go_enter Try.func34, Try.ntmps34
  go_wp2_with fail
  go_quiet (fail)
  go_wp2
  exact bodyPost_ret (v := .tuple #[Rc.zero.val, .int .i64 0]) (by simp [results, Try.results34, go_sem, Rc.val, Rc.cells, Rc.zero, Ev.zero]) rfl (FIN.out _ (by (repeat' (first | with_reducible exact hbel | with_reducible refine Below.setCell ?_ ?_ _ | with_reducible refine Below.alloc ?_ ?_ _ | with_reducible refine below_drewN ?_ _)) <;> (simp <;> omega)))

theorem Reads.cells {w : World} {B n b off : Nat} {d : List Int} (h : Reads w B 1 (some ⟨b, off, none⟩) n (d.map (Value.int .u8))) (k : Nat) (hk : k < n) : w.cell? ⟨b, off + k, none⟩ = some (.int .u8 (d.getD k 0)) := by
  have hl : d.length = n := by simpa using h.1
  obtain ⟨b', o', e, _, hc⟩ := h.plain (by omega) (by omega)
  injection e with e
  injection e with e1 e2
  subst e1 e2
  exact hc k _ (by rw [List.getElem?_map, List.getElem?_eq_getElem (show k < d.length by omega)]; simp [List.getD, List.getElem?_eq_getElem (show k < d.length by omega)])

set_option maxRecDepth 100000 in
set_option maxHeartbeats 2000000 in
theorem first_long (b off n c B M : Nat) (x y : Int) (d : List Int) (w : World) (h : Reads w B 1 (some ⟨b, off, none⟩) n (d.map (Value.int .u8))) (q0 : w.cell? ⟨b, off, none⟩ = some (.int .u8 x)) (q1 : w.cell? ⟨b, off + 1, none⟩ = some (.int .u8 y)) (z00 : 0 ≤ x) (z01 : x ≤ 255) (z10 : 0 ≤ y) (z11 : y ≤ 255)
    (hM0 : (M : Int) = 2 + x * 256 + y) (hB : B ≤ w.heap.size) (hn : n ≤ c) (hcb : c ≤ 9223372036854775807) (hn2 : n ≤ 100000) (h4 : M + 4 ≤ n) (hz : ∀ z ∈ d, 0 ≤ z ∧ z ≤ 255) :
    Calls Try.prog 34 #[.slice (some ⟨b, off, none⟩) n c] w (FirstPost w (if valOf ((d.drop M).take 4) ≠ sumOf (d.take M) then (Rc.zero, 0) else if (decode ((d.drop 2).take (M - 2))).1 ≠ 0 then (Rc.zero, 0) else ((decode ((d.drop 2).take (M - 2))).2, M + 4))) := by
  have i1 : IntKind.i64.wrap (x * 256) = x * 256 := IntWalk.i64_in _ (by omega)
  have i2 : IntKind.i64.wrap (2 + x * 256) = 2 + x * 256 := IntWalk.i64_in _ (by omega)
  have i3 : IntKind.i64.wrap (2 + x * 256 + y) = M := by rw [← hM0]; exact IntWalk.i64_in _ (by omega)
  have hM2 : 2 ≤ M := by omega
  have hnI : (2 : Int) ≤ (n : Int) := by omega
  have hbw : b < w.heap.size := lt_of_cell q0
  have hM3 : M ≤ 65537 := by omega
  have hI : ¬ (n : Int) < (M : Int) + 4 := by omega
  have hl : d.length = n := by simpa using h.1
  have rS := Reads.sub h (j := 0) (k := M) (by omega)
  have rD := Reads.sub h (j := 2) (k := M - 2) (by omega)
  have r4 := Reads.sub h (j := M) (k := 4) (by omega)
  simp only [List.drop_zero, Nat.add_zero] at rS
  have hz4 : ∀ z ∈ (d.drop M).take 4, 0 ≤ z ∧ z ≤ 255 := fun z h => hz z (List.mem_of_mem_drop (List.mem_of_mem_take h))
  have hl4 : ((d.drop M).take 4).length = 4 := by simp; omega
  have CS := Lib.hid (fun W hr => sum_any (some ⟨b, off, none⟩) M c B (d.take M) W hr (fun z h => hz z (List.mem_of_mem_take h)) (by omega))
  have CD := Lib.hid (fun W hr hb => decode_any (some ⟨b, off + 2, none⟩) (M - 2) (c - 2) B ((d.drop 2).take (M - 2)) W hr hb (by omega) (by omega) (fun z h => hz z (List.mem_of_mem_drop (List.mem_of_mem_take h))))
  generalize ((d.drop M).take 4) = f4 at *
  generalize ((d.drop 2).take (M - 2)) = dd at *
  generalize d.take M = dM at *
  have FIN1 := Lib.hid (fun W hb (hne : valOf f4 ≠ sumOf dM) => (show FirstPost w (if valOf f4 ≠ sumOf dM then (Rc.zero, 0) else if (decode dd).1 ≠ 0 then (Rc.zero, 0) else ((decode dd).2, M + 4)) (.returned (.tuple #[Rc.zero.val, .int .i64 0])) W from by rw [if_pos hne]; exact ⟨rfl, hb⟩))
  have FIN2 := Lib.hid (fun W hb (he : valOf f4 = sumOf dM) (hd : (decode dd).1 ≠ 0) => (show FirstPost w (if valOf f4 ≠ sumOf dM then (Rc.zero, 0) else if (decode dd).1 ≠ 0 then (Rc.zero, 0) else ((decode dd).2, M + 4)) (.returned (.tuple #[Rc.zero.val, .int .i64 0])) W from by rw [if_neg (by simp [he]), if_pos hd]; exact ⟨rfl, hb⟩))
  have FIN3 := Lib.hid (fun W hb (he : valOf f4 = sumOf dM) (hd : (decode dd).1 = 0) => (show FirstPost w (if valOf f4 ≠ sumOf dM then (Rc.zero, 0) else if (decode dd).1 ≠ 0 then (Rc.zero, 0) else ((decode dd).2, M + 4)) (.returned (.tuple #[(decode dd).2.val, .int .i64 ((M : Int) + 4)])) W from by rw [if_neg (by simp [he]), if_neg (by simp [hd])]; exact ⟨rfl, hb⟩))
  generalize FirstPost w (if valOf f4 ≠ sumOf dM then (Rc.zero, 0) else if (decode dd).1 ≠ 0 then (Rc.zero, 0) else ((decode dd).2, M + 4)) = POST at *
  have hbel := (Below.refl w.heap.size w).alloc (Nat.le_refl _) (.cells Rc.zero.cells 29)
  unfold Rc.cells Rc.zero Ev.zero at hbel
  clear hM0 h hz hl
  go_enter Try.func34, Try.ntmps34
  go_wp2_with fail
  go_quiet (fail)
  go_wp2_with fail
  have hat := r4.cells
  clear r4
  go_loop [5, 39] (fun s i => ∃ k : Nat, k ≤ 4 ∧ i = .int .i64 k ∧ s = .int .i64 (valOf (f4.take k))) (fun _ i => 4 - (intOf i).toNat)
  case atStart => exact ⟨0, Nat.zero_le _, rfl, rfl⟩
  case round =>
    obtain ⟨k, hk, rfl, rfl⟩ := hrel
    by_cases hlt : k < 4
    · have hcx := hat k hlt
      have hzx : 0 ≤ f4.getD k 0 ∧ f4.getD k 0 ≤ 255 := hz4 _ (by rw [List.getD, List.getElem?_eq_getElem (show k < f4.length by omega)]; simp)
      have hb := valOf_bd 4 (f4.take k) (by simp; omega) (fun z h => hz4 z (List.mem_of_mem_take h))
      have HT := Lib.hid (take_snoc f4 k (by omega))
      have HV := Lib.hid (valOf_snoc (f4.take k) (f4.getD k 0))
      have hb2 := valOf_bd 4 (f4.take (k + 1)) (by simp; omega) (fun z h => hz4 z (List.mem_of_mem_take h))
      rw [HT.out, HV.out] at hb2
      clear hat hz4
      generalize f4.getD k 0 = z at *
      generalize valOf (f4.take k) = v at *
      have HO := Lib.hid (or_shift8 v z (by omega) (by omega) (by omega) (by omega))
      go_wp2
      go_round
      case rel => exact ⟨k + 1, by omega, by go_num, by rw [HT.out, HV.out, ← HO.out]⟩
      case measure => simp [intOf]; omega
    · obtain rfl : k = 4 := by omega
      rw [List.take_of_length_le (by omega)]
      clear hat hz4
      generalize valOf f4 = s4 at *
      go_wp2_with fail
      refine (CS.out _ ((rS.alloc hB _).drewN _)).mono ?_
      clear CS
      rintro e w1 ⟨rfl, rfl⟩
      generalize sumOf dM = sM at *
      by_cases he : s4 = sM
      · subst he
        clear FIN1
        go_wp2_with fail
        refine (CD.out _ ((rD.alloc hB _).drewN _) (by simp; omega)).mono ?_
        clear CD
        rintro e w2 ⟨rfl, b2⟩
        have hbel2 := (below_drewN hbel nq).trans (b2.mono (by simp))
        have E2 : Blk w2 w.heap.size 29 Rc.zero.cells := ((Blk.new w 29 Rc.zero.cells).drewN nq).below b2 (by simp)
        clear b2 hbel
        have hbel := hbel2
        clear hbel2
        generalize decode dd = dr at *
        obtain ⟨code, ⟨k, q, ep, p, ⟨x0, x1, x2, x3, x4, x5⟩⟩⟩ := dr
        unfold Rc.val Rc.cells at *
        obtain ⟨y0, y1, y2, y3, y4, y5, y6, y7, y8, y9⟩ := rcBlk E2
        have zE := E2.lt
        have fE := E2.frozen
        by_cases hcode : code = 0
        · subst hcode
          have F3 := Lib.hid (fun W hb => FIN3.out W hb (by simp) (by simp))
          clear FIN2 FIN3
          go_wp2
          exact bodyPost_ret (v := .tuple #[.agg #[.int .i64 k, .int .i64 q, .int .i64 ep, .int .i64 p, .int .i64 x0, .int .i64 x1, .int .i64 x2, .int .i64 x3, .int .i64 x4, .int .i64 x5], .int .i64 ((M : Int) + 4)]) (by simp [results, Try.results34, go_sem, zE, y0, y1, y2, y3, y4, y5, y6, y7, y8, y9]) rfl (F3.out _ (by (repeat' (first | with_reducible exact hbel | with_reducible refine Below.setCell ?_ ?_ _ | with_reducible refine Below.alloc ?_ ?_ _ | with_reducible refine below_drewN ?_ _)) <;> (simp <;> omega)))
        · have F2 := Lib.hid (fun W hb => FIN2.out W hb (by simp) hcode)
          clear FIN2 FIN3
          go_wp2
          exact bodyPost_ret (v := .tuple #[Rc.zero.val, .int .i64 0]) (by simp [results, Try.results34, go_sem, Rc.val, Rc.cells, Rc.zero, Ev.zero, zE, y0, y1, y2, y3, y4, y5, y6, y7, y8, y9]) rfl (F2.out _ (by (repeat' (first | with_reducible exact hbel | with_reducible refine Below.setCell ?_ ?_ _ | with_reducible refine Below.alloc ?_ ?_ _ | with_reducible refine below_drewN ?_ _)) <;> (simp <;> omega)))
      · have F1 := Lib.hid (fun W hb => FIN1.out W hb he)
        clear FIN1 FIN2 FIN3
        go_wp2
        exact bodyPost_ret (v := .tuple #[Rc.zero.val, .int .i64 0]) (by simp [results, Try.results34, go_sem, Rc.val, Rc.cells, Rc.zero, Ev.zero]) rfl (F1.out _ (by (repeat' (first | with_reducible exact hbel | with_reducible refine Below.setCell ?_ ?_ _ | with_reducible refine Below.alloc ?_ ?_ _ | with_reducible refine below_drewN ?_ _)) <;> (simp <;> omega)))

theorem first_any (A : Option Addr) (n c B : Nat) (d : List Int) (w : World) (h : Reads w B 1 A n (d.map (Value.int .u8))) (hB : B ≤ w.heap.size) (hn : n ≤ c) (hcb : c ≤ 9223372036854775807) (hn2 : n ≤ 100000) (hz : ∀ z ∈ d, 0 ≤ z ∧ z ≤ 255) :
    Calls Try.prog 34 #[.slice A n c] w (FirstPost w (firstOf d)) := by
  have hl : d.length = n := by simpa using h.1
  by_cases h2 : n < 2
  · have hf : firstOf d = (Rc.zero, 0) := by unfold firstOf; rw [if_pos (by omega)]
    rw [hf]
    exact first_short0 A n c w h2
  · obtain ⟨b, off, rfl, hb, _⟩ := h.plain (by omega) (by omega)
    have hzk : ∀ k, k < n → 0 ≤ d.getD k 0 ∧ d.getD k 0 ≤ 255 := fun k hk => hz _ (by rw [List.getD, List.getElem?_eq_getElem (show k < d.length by omega)]; simp)
    obtain ⟨z00, z01⟩ := hzk 0 (by omega)
    obtain ⟨z10, z11⟩ := hzk 1 (by omega)
    have hM0 : ((saidLen d : Nat) : Int) = 2 + d.getD 0 0 * 256 + d.getD 1 0 := by unfold saidLen; omega
    by_cases h4 : n < saidLen d + 4
    · have hf : firstOf d = (Rc.zero, 0) := by unfold firstOf; rw [if_neg (by omega), if_pos (by omega)]
      rw [hf]
      exact first_short1 b off n c (saidLen d) _ _ w (h.cells 0 (by omega)) (h.cells 1 (by omega)) z00 z01 z10 z11 hM0 hn2 h2 h4
    · have hf : firstOf d = if valOf ((d.drop (saidLen d)).take 4) ≠ sumOf (d.take (saidLen d)) then (Rc.zero, 0) else if (decode ((d.drop 2).take (saidLen d - 2))).1 ≠ 0 then (Rc.zero, 0) else ((decode ((d.drop 2).take (saidLen d - 2))).2, saidLen d + 4) := by
        unfold firstOf; rw [if_neg (by omega), if_neg (by omega)]
      rw [hf]
      exact first_long b off n c B (saidLen d) _ _ d w h (h.cells 0 (by omega)) (h.cells 1 (by omega)) z00 z01 z10 z11 hM0 hB hn hcb hn2 (by omega) hz

end Go.Proofs.Ytcgamaponeglhaa
