/- QueueKeeps: the walk. -/
import Derived.Test.YtkolmpeghnkjkaaQL
import Derived.Test.YtkolmpeghnkjkaaPlLaw
import Derived.Deep.QuietTactic
import Derived.BigQuiet
namespace Go.Proofs.Ytkolmpeghnkjkaa
open Go.RowKit

set_option maxRecDepth 100000 in
set_option maxHeartbeats 8000000 in
theorem queueKeeps_walk (A : Option Addr) (n c : Nat) (rows : List (List Int)) (w : World) (h : IsRows 4 32 w A n c rows) :
    Calls Try.prog 3 #[.slice A n c] w fun e w' => e = .returned (.bool true) ∧ Below w.heap.size w w' := by
  have HRW := Lib.hid h
  have hf := Lib.hid (fun (h0 : 0 < n) (h8 : pick ((rows.getD 0 []).getD 0 0) 8 < 3) => show 1 ≤ (playN rows (min n 60)).q.nx from by
    rw [show min n 60 = (min n 60 - 1) + 1 by omega]
    exact playN_first rows h8 _)
  go_enter Try.func3, Try.ntmps3
  go_wp2_with fail
  refine (played_any A n c 60 rows w h (by omega)).mono ?_
  rintro e w1 ⟨v, ve, va, lo, rfl, hv, hes, hans, b1⟩
  have hok := playN_ok rows (min n 60) (by omega)
  have hkp := playN_keeps rows (min n 60)
  obtain ⟨p, hp⟩ : ∃ p, playN rows (min n 60) = p := ⟨_, rfl⟩
  simp only [hp] at *
  have hp0 := Lib.hid hp
  clear hp
  obtain ⟨cs, A1, c1, A2, c2, rfl, K⟩ := hv.parts
  have HS := Lib.hid K.size
  have HA := Lib.hid K.all
  have HES := Lib.hid hes
  have HANS := Lib.hid hans
  clear hans hes
  go_upto_region 2 with (first
    | (refine wpList_alloc_row rfl 30 rfl _ q_zero ?_; intro w2 E2 g2 z2)
    | (refine wpList_store_rowQ rfl 30 (.tmp 3) (.tmp 10) rfl w1.heap.size cs rfl rfl 30 _ E2 (by rw [q_size, HS.out]) (by rw [HS.out]; rfl) HA.out ?_; intro w3 E3 g3 z3))
  have bw : Below w1.heap.size w1 w3 := ((Below.refl _ _).grown g2 (Nat.le_refl _) (fun _ h => by cases h)).grown g3 (by omega) (fun j h => by cases h; omega)
  have hv3 := hv.below bw
  have hes3 := own_below HES.out bw (Nat.le_refl _)
  have bel3 := b1.trans (bw.mono b1.size)
  have hwq := b1.size
  obtain ⟨gq, hgq⟩ : ∃ gq, gq = w1.heap.size := ⟨_, rfl⟩
  have hsz3 : w3.heap.size = gq + 1 := by omega
  have r13 := K.r1.below bw
  have r23 := K.r2.below bw
  rw [← hgq] at E3 hv3 hwq r13 r23 ⊢
  clear hv HES b1 E2 g2 g3 z2 z3 bw hgq
  obtain ⟨k1, k2, k3⟩ := hkp
  obtain ⟨Ae, ce, rfl, hce, hce2⟩ := own_shape hes3
  have re := Reads.of_own hes3
  have hle := hok.le
  have hll := hok.len
  obtain ⟨va9, ca9, rfl, _, _⟩ := own_shape HANS.out
  rw [← hll]
  have C1 := Lib.hid (fun q => count_any p.es Ae p.es.length ce w3.heap.size 1 (w3.drewN q) (re.drewN q) rfl (by omega))
  have C3 := Lib.hid (fun q => count_any p.es Ae p.es.length ce w3.heap.size 3 (w3.drewN q) (re.drewN q) rfl (by omega))
  have C4 := Lib.hid (fun q => count_any p.es Ae p.es.length ce w3.heap.size 4 (w3.drewN q) (re.drewN q) rfl (by omega))
  generalize p.es.countP (isKind 1) = a1 at *
  generalize p.es.countP (isKind 3) = a3 at *
  generalize p.es.countP (isKind 4) = a4 at *
  have x0 := (E3.cell 0).trans K.ep
  have x1 := (E3.cell 1).trans K.nx
  have x3 := (E3.cell 3).trans K.rd
  have x4 := (E3.cell 4).trans K.ls
  rw [k2] at x0
  rw [k3] at x1
  have hfx := hf.out
  rw [k3] at hfx
  have hlenr := hok.room.1
  have hgz := E3.lt
  generalize p.q.rd.length = R at *
  generalize p.q.ls.length = L at *
  generalize p.es.length = M at *
  have i1 : IntKind.i64.wrap ((R : Int) + (L : Int)) = (R : Int) + (L : Int) := IntWalk.i64_in _ (by omega)
  have i2 : IntKind.i64.wrap ((a1 : Int) - (a3 : Int)) = (R : Int) + (L : Int) := by rw [IntWalk.i64_in _ (by omega)]; omega
  have hb3 := Lib.hid bel3
  have HK3 := Lib.hid k3
  clear k1 k2 k3 hok hv3 hes3 re HANS HA HS K E3 r13 r23 hfx bel3 hll hle hce hce2 hlenr hp0
  rcases Nat.eq_zero_or_pos n with h0 | h0
  · subst h0
    clear hf
    go_quiet (first | (go_at_call 16; with_reducible exact Calls.quiet_of_same (C1.out _)) | (go_at_call 16; with_reducible exact Calls.quiet_of_same (C3.out _)) | (go_at_call 16; with_reducible exact Calls.quiet_of_same (C4.out _)))
    go_wp2
    go_ret
    exact ⟨rfl, below_drewN hb3.out _⟩
  · obtain ⟨hl, hnc, hcb, hr, hs⟩ := HRW.out
    obtain ⟨b, off, rfl, hb, g1, l1⟩ := row4q hl hs hr h0
    have q0 : w.cell? ⟨b, off, none⟩ = some (.int .i64 ((rows.getD 0 []).getD 0 0)) := g1 0 (by omega)
    have q0' := (hb3.out.cell (p := ⟨b, off, none⟩) hb).trans q0
    obtain ⟨z1, z2⟩ := l1 0
    have hfx := hf.out h0
    have PJ := Lib.hid (fun W => (picked_any ((rows.getD 0 []).getD 0 0) 8 W z1 z2 (by omega) (by omega)).mono (fun e w' h => (⟨h.1, h.2.symm⟩ : e = .returned (.int .i64 (pick ((rows.getD 0 []).getD 0 0) 8)) ∧ w' = W)))
    have hn0 : ((n : Int) == 0) = false := by rw [beq_eq_false_iff_ne]; omega
    have hcI : (n : Int) ≤ (c : Int) := by omega
    have hn1 : (0 : Int) < (n : Int) := by omega
    have hn2 : (n == 0) = false := by rw [beq_eq_false_iff_ne]; omega
    have hn3 : decide (n = 0) = false := decide_eq_false (by omega)
    have hn4 : decide ((n : Int) = 0) = false := decide_eq_false (by omega)
    clear q0 g1 l1 hl hnc hcb hr hs hf
    by_cases h3 : pick ((rows.getD 0 []).getD 0 0) 8 < 3
    · have hx := hfx h3
      rw [HK3.out] at hx
      generalize pick ((rows.getD 0 []).getD 0 0) 8 = k at *
      generalize (rows.getD 0 []).getD 0 0 = z at *
      have d1 : decide (2 < k) = false := decide_eq_false (by omega)
      have d2 : (0 : Int) < (a1 : Int) := by omega
      have d3 : 0 < a1 := by omega
      clear hfx
      go_quiet (first | (go_at_call 16; with_reducible exact Calls.quiet_of_same (C1.out _)) | (go_at_call 16; with_reducible exact Calls.quiet_of_same (C3.out _)) | (go_at_call 16; with_reducible exact Calls.quiet_of_same (C4.out _)) | (go_at_call 17; with_reducible exact Calls.quiet_of_same (PJ.out _)))
      go_wp2
      go_ret
      exact ⟨rfl, below_drewN hb3.out _⟩
    · generalize pick ((rows.getD 0 []).getD 0 0) 8 = k at *
      generalize (rows.getD 0 []).getD 0 0 = z at *
      have d1 : 2 < k := by omega
      clear hfx
      go_quiet (first | (go_at_call 16; with_reducible exact Calls.quiet_of_same (C1.out _)) | (go_at_call 16; with_reducible exact Calls.quiet_of_same (C3.out _)) | (go_at_call 16; with_reducible exact Calls.quiet_of_same (C4.out _)) | (go_at_call 17; with_reducible exact Calls.quiet_of_same (PJ.out _)))
      go_wp2
      go_ret
      exact ⟨rfl, below_drewN hb3.out _⟩

end Go.Proofs.Ytkolmpeghnkjkaa
