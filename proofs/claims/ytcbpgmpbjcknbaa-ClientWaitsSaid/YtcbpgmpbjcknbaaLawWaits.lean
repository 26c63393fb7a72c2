/- ClientWaits: the walk. -/
import Derived.Test.YtcbpgmpbjcknbaaWaitLaw
import Derived.Deep.RegionHeld3
import Derived.BigRegion
namespace Go.Proofs.Ytcbpgmpbjcknbaa
open Go.RowKit

set_option maxRecDepth 100000 in
set_option maxHeartbeats 8000000 in
theorem clientWaits_walk (pr : Int) (A : Option Addr) (n c : Nat) (zs : List Int) (wh : Int) (w : World) (hpr : Is64 pr) (h : IsNums .i64 8 w A n c zs) (hwh : Is64 wh) :
    Calls Try.prog 7 #[.int .i64 pr, .slice A n c, .int .i64 wh] w fun e w' => e = .returned (.bool true) ∧ Below w.heap.size w w' := by
  obtain ⟨hl, hnc, hcb, hr, hwf⟩ := h
  obtain ⟨hp1, hp2⟩ := hpr
  obtain ⟨hw1, hw2⟩ := hwh
  have p0 := pick_lo pr 4 (by omega)
  have p1 := pick_hi pr 4 (by omega)
  have P0 := fun W => Lib.hid (picked_any pr 4 W hp1 hp2 (by omega) (by omega))
  generalize pick pr 4 = P at *
  have hIn : ∀ k, k < n → Is64 (zs.getD k 0) := fun k hk => is64_of_wf (by have := hwf (zs.getD k 0) (by rw [List.getD, List.getElem?_eq_getElem (show k < zs.length by omega)]; simp); simpa using this)
  obtain ⟨g, hg⟩ : ∃ g : Nat → Int, ∀ j, pick (zs.getD j 0) 1000 = g j := ⟨_, fun _ => rfl⟩
  have hgB := Lib.hid (show ∀ j, 0 ≤ g j ∧ g j < 1000 from fun j => hg j ▸ ⟨pick_lo _ 1000 (by omega), pick_hi _ 1000 (by omega)⟩)
  have HG := Lib.hid hg
  have HI := Lib.hid hIn
  clear hg hIn hwf
  go_enter Try.func7, Try.ntmps7
  go_wp2_with fail
  refine ((P0 _).out).mono ?_
  rintro e w1 ⟨rfl, rfl⟩
  go_wp2_with fail
  refine (cnew_ok P _ (by omega) (by omega)).mono ?_
  rintro e w1 ⟨rfl, b1⟩
  have bel1 : Below w.heap.size w w1 := b1
  clear b1 P0
  have E0 := Blk.new w1 46 (cliCells P 0 (.slice none 0 0) (fun _ => -1))
  have bel0 := bel1.alloc bel1.size (.cells (cliCells P 0 (.slice none 0 0) (fun _ => -1)) 46)
  obtain ⟨gc, hgc⟩ : ∃ gc, gc = w1.heap.size := ⟨_, rfl⟩
  have hgw : w.heap.size ≤ gc := by rw [hgc]; exact bel1.size
  rw [← hgc] at E0
  unfold cliCells
  go_wp2_with fail
  rw [← hgc] at ⊢
  go_loopw [9, 10] (fun s9 s10 wr => ∃ (k : Nat) (A0 : Option Addr) (cc : Nat), k ≤ n ∧ k ≤ 8 ∧ s9 = .int .i64 k ∧ s10 = .int .i64 k ∧ Blk wr gc 46 (cliCells P k (.slice A0 k cc) (fun _ => -1)) ∧ k ≤ cc ∧ Reads wr wr.heap.size 6 A0 k (evRow P (sentW g k)) ∧ Fresh (gc + 1) A0 ∧ Below w.heap.size w wr) (fun s9 _ _ => 8 - (intOf s9).toNat)
  case atStart => exact ⟨0, none, 0, by omega, by omega, rfl, rfl, E0, by omega, Reads.none_, (fun _ h => by cases h), bel0⟩
  case round =>
    clear E0 bel0 bel1 hgc
    obtain ⟨k, A0, cc, hk, hk8, rfl, rfl, E, hkc, rA, hFr, bel⟩ := hrel
    by_cases hcond : k < n ∧ k < 8
    · obtain ⟨hkn, hk2⟩ := hcond
      have hI1 : (k : Int) < (n : Int) := by omega
      have hI2 : (k : Int) < 8 := by omega
      have i1 : IntKind.i64.wrap ((k : Int) + 1) = (k : Int) + 1 := IntWalk.i64_in _ (by omega)
      obtain ⟨hz1, hz2⟩ := HI.out k hkn
      clear HI
      obtain ⟨x0, x1, x2, x3, x4, x5, x6⟩ := cliBlk E
      have h2 : (List.map (Value.int IntKind.i64) zs)[k]? = some (.int .i64 (zs.getD k 0)) := by
        rw [List.getElem?_map, List.getElem?_eq_getElem (show k < zs.length by omega), List.getD, List.getElem?_eq_getElem (show k < zs.length by omega)]
        rfl
      obtain ⟨b, off, hA, hb, hcell⟩ := (hr.below bel).plain (by omega) (by omega)
      subst hA
      have q0 : wr.cell? ⟨b, off + k, none⟩ = some (.int .i64 (zs.getD k 0)) := by
        have := hcell k _ h2
        simpa using this
      have hbw : b < wr.heap.size := by have := bel.size; omega
      have hgk := HG.out k
      obtain ⟨p2, p3⟩ := hgB.out k
      have HW := Lib.hid (sentW_snoc g k)
      have CS := Lib.hid (fun W hr hB => csend_ok P k (g k) A0 k cc wr.heap.size (sentW g k) (fun _ => -1) W (clok_sent g hgB.out P k (by omega) (by omega) (by omega)) (sentW_len g k) (by omega) hkc hr hB (by omega) (by rcases Nat.eq_zero_or_pos k with h | h; exact .inl h; refine .inr ?_; rw [sentW_get g k 0 h]; simp; omega) (by omega) (by omega))
      clear hcell h2 hr HG hgB
      generalize zs.getD k 0 = z at *
      have PZ := Lib.hid (fun W => picked_any z 1000 W hz1 hz2 (by omega) (by omega))
      rw [hgk] at PZ
      clear hgk
      generalize g k = body at *
      have hgb : gc < wr.heap.size := E.lt
      have ne1 : ¬ b = wr.heap.size := by omega
      have ne2 : ¬ wr.heap.size = b := by omega
      have ne3 : ¬ gc = wr.heap.size := by omega
      have ne4 : ¬ wr.heap.size = gc := by omega
      have ne5 : ¬ b = wr.heap.size + 1 := by omega
      have ne6 : ¬ wr.heap.size + 1 = b := by omega
      have ne7 : ¬ gc = wr.heap.size + 1 := by omega
      have ne8 : ¬ wr.heap.size + 1 = gc := by omega
      go_upto_region 6 with fail
      go_cut [11, 12, 13] (fun s11 s12 s13 wx => ∃ g8 g9 A1 c1, s11 = .pointer (some ⟨g8, 0, none⟩) ∧ s12 = .pointer (some ⟨g9, 0, none⟩) ∧ s13 = .int .i64 0 ∧ Sent wr P k body (fun _ => -1) (k + 1) c1 A1 (evRow P (sentW g (k + 1))) g8 g9 wx ∧ Fresh wr.heap.size A1)
      case first =>
        go_region_held3 (fun W => W.cell? ⟨b, off + k, none⟩ = some (.int .i64 z) ∧ W.cell? ⟨gc, 0, none⟩ = some (.int .i64 P) ∧ W.cell? ⟨gc, 1, none⟩ = some (.int .i64 k) ∧ W.cell? ⟨gc, 2, none⟩ = some (.slice A0 k cc) ∧ W.cell? ⟨gc, 3, none⟩ = some (.int .i64 (-1)) ∧ W.cell? ⟨gc, 4, none⟩ = some (.int .i64 (-1)) ∧ W.cell? ⟨gc, 5, none⟩ = some (.int .i64 (-1)) ∧ W.cell? ⟨gc, 6, none⟩ = some (.int .i64 (-1))) (go_keep)
          (first
            | (go_at_call 9; refine (PZ.out _).mono ?_; rintro e w' ⟨rfl, rfl⟩)
            | (go_at_call 18; refine (CS.out _ (by first | exact rA.drew | exact (rA.alloc (Nat.le_refl _) _).drew | exact ((rA.alloc (Nat.le_refl _) _).alloc (by simp) _).drew) (by simp <;> omega)).mono ?_; rintro e w3 ⟨v, rfl, o3, b3⟩; unfold cliCells evCells; rw [HW.out] at o3; have hbW : Below wr.heap.size wr w3 := (by first | exact (Below.refl _ _).drew.trans (b3.mono (by simp)) | exact ((Below.refl _ _).alloc (Nat.le_refl _) _).drew.trans (b3.mono (by simp)) | exact (((Below.refl _ _).alloc (Nat.le_refl _) _).alloc (by simp) _).drew.trans (b3.mono (by simp <;> omega))); obtain ⟨A3, c3, rfl, hmc, _⟩ := own_shape o3; have hw3 := hbW.size; have m1 : ¬ b = w3.heap.size := (by omega); have m2 : ¬ w3.heap.size = b := (by omega); have m3 : ¬ gc = w3.heap.size := (by omega); have m4 : ¬ w3.heap.size = gc := (by omega); have m5 : ¬ b = w3.heap.size + 1 := (by omega); have m6 : ¬ w3.heap.size + 1 = b := (by omega); have m7 : ¬ gc = w3.heap.size + 1 := (by omega); have m8 : ¬ w3.heap.size + 1 = gc := (by omega); have hF := own_fresh o3; have r3 := Reads.of_own o3; have s0 := (hbW.cell (p := ⟨b, off + k, none⟩) hbw).trans q0; have s1 := (hbW.cell (p := ⟨gc, 0, none⟩) hgb).trans x0; have s2 := (hbW.cell (p := ⟨gc, 1, none⟩) hgb).trans x1; have s3 := (hbW.cell (p := ⟨gc, 2, none⟩) hgb).trans x2; have s4 := (hbW.cell (p := ⟨gc, 3, none⟩) hgb).trans x3; have s5 := (hbW.cell (p := ⟨gc, 4, none⟩) hgb).trans x4; have s6 := (hbW.cell (p := ⟨gc, 5, none⟩) hgb).trans x5; have s7 := (hbW.cell (p := ⟨gc, 6, none⟩) hgb).trans x6; have eC : Blk w3 wr.heap.size 46 #[.int .i64 0, .int .i64 0, .slice none 0 0, .int .i64 0, .int .i64 0, .int .i64 0, .int .i64 0] := (((Blk.new wr _ _).alloc _).drew.below b3 (by simp <;> omega)); have eE : Blk w3 (wr.heap.size + 1) 58 #[.int .i64 0, .int .i64 0, .int .i64 0, .int .i64 0, .int .i64 0, .int .i64 0] := ((Blk.new' (w := wr.alloc _) (by simp)).drew.below b3 (by simp)); have fC := eC.frozen; have zC := eC.lt; have k1 := Nat.ne_of_lt eC.lt; have k2 := Nat.ne_of_gt eC.lt; have c0 := eC.cell 0; have c1 := eC.cell 1; have c2 := eC.cell 2; have c4 := eC.cell 3; have c5 := eC.cell 4; have c6 := eC.cell 5; have c7 := eC.cell 6; have fE := eE.frozen; have zE := eE.lt; have k3 := Nat.ne_of_lt eE.lt; have k4 := Nat.ne_of_gt eE.lt; have d0 := eE.cell 0; have d1 := eE.cell 1; have d2 := eE.cell 2; have d3 := eE.cell 3; have d4 := eE.cell 4; have d5 := eE.cell 5; have hFF := (by simpa using hF : Fresh _ A3); clear b3)
            | (go_at_call 18; refine (CS.out _ (by first | exact rA.drew | exact (rA.alloc (Nat.le_refl _) _).drew | exact ((rA.alloc (Nat.le_refl _) _).alloc (by simp) _).drew) (by simp <;> omega)).mono ?_; rintro e w3 ⟨v, rfl, o3, b3⟩; unfold cliCells evCells; rw [HW.out] at o3; have hbW : Below wr.heap.size wr w3 := (by first | exact (Below.refl _ _).drew.trans (b3.mono (by simp)) | exact ((Below.refl _ _).alloc (Nat.le_refl _) _).drew.trans (b3.mono (by simp)) | exact (((Below.refl _ _).alloc (Nat.le_refl _) _).alloc (by simp) _).drew.trans (b3.mono (by simp <;> omega))); obtain ⟨A3, c3, rfl, hmc, _⟩ := own_shape o3; have hw3 := hbW.size; have m1 : ¬ b = w3.heap.size := (by omega); have m2 : ¬ w3.heap.size = b := (by omega); have m3 : ¬ gc = w3.heap.size := (by omega); have m4 : ¬ w3.heap.size = gc := (by omega); have m5 : ¬ b = w3.heap.size + 1 := (by omega); have m6 : ¬ w3.heap.size + 1 = b := (by omega); have m7 : ¬ gc = w3.heap.size + 1 := (by omega); have m8 : ¬ w3.heap.size + 1 = gc := (by omega); have hF := own_fresh o3; have r3 := Reads.of_own o3; have s0 := (hbW.cell (p := ⟨b, off + k, none⟩) hbw).trans q0; have s1 := (hbW.cell (p := ⟨gc, 0, none⟩) hgb).trans x0; have s2 := (hbW.cell (p := ⟨gc, 1, none⟩) hgb).trans x1; have s3 := (hbW.cell (p := ⟨gc, 2, none⟩) hgb).trans x2; have s4 := (hbW.cell (p := ⟨gc, 3, none⟩) hgb).trans x3; have s5 := (hbW.cell (p := ⟨gc, 4, none⟩) hgb).trans x4; have s6 := (hbW.cell (p := ⟨gc, 5, none⟩) hgb).trans x5; have s7 := (hbW.cell (p := ⟨gc, 6, none⟩) hgb).trans x6; have eE : Blk w3 wr.heap.size 58 #[.int .i64 0, .int .i64 0, .int .i64 0, .int .i64 0, .int .i64 0, .int .i64 0] := (((Blk.new wr _ _).alloc _).drew.below b3 (by simp <;> omega)); have eC : Blk w3 (wr.heap.size + 1) 46 #[.int .i64 0, .int .i64 0, .slice none 0 0, .int .i64 0, .int .i64 0, .int .i64 0, .int .i64 0] := ((Blk.new' (w := wr.alloc _) (by simp)).drew.below b3 (by simp)); have fC := eC.frozen; have zC := eC.lt; have k1 := Nat.ne_of_lt eC.lt; have k2 := Nat.ne_of_gt eC.lt; have c0 := eC.cell 0; have c1 := eC.cell 1; have c2 := eC.cell 2; have c4 := eC.cell 3; have c5 := eC.cell 4; have c6 := eC.cell 5; have c7 := eC.cell 6; have fE := eE.frozen; have zE := eE.lt; have k3 := Nat.ne_of_lt eE.lt; have k4 := Nat.ne_of_gt eE.lt; have d0 := eE.cell 0; have d1 := eE.cell 1; have d2 := eE.cell 2; have d3 := eE.cell 3; have d4 := eE.cell 4; have d5 := eE.cell 5; have hFF := (by simpa using hF : Fresh _ A3); clear b3)
            | (go_at_call 18; refine (CS.out _ (by first | exact rA.drew | exact (rA.alloc (Nat.le_refl _) _).drew | exact ((rA.alloc (Nat.le_refl _) _).alloc (by simp) _).drew) (by simp <;> omega)).mono ?_; rintro e w3 ⟨v, rfl, o3, b3⟩; unfold cliCells evCells; rw [HW.out] at o3; have hbW : Below wr.heap.size wr w3 := (by first | exact (Below.refl _ _).drew.trans (b3.mono (by simp)) | exact ((Below.refl _ _).alloc (Nat.le_refl _) _).drew.trans (b3.mono (by simp)) | exact (((Below.refl _ _).alloc (Nat.le_refl _) _).alloc (by simp) _).drew.trans (b3.mono (by simp <;> omega))); obtain ⟨A3, c3, rfl, hmc, _⟩ := own_shape o3; have hw3 := hbW.size; have m1 : ¬ b = w3.heap.size := (by omega); have m2 : ¬ w3.heap.size = b := (by omega); have m3 : ¬ gc = w3.heap.size := (by omega); have m4 : ¬ w3.heap.size = gc := (by omega); have m5 : ¬ b = w3.heap.size + 1 := (by omega); have m6 : ¬ w3.heap.size + 1 = b := (by omega); have m7 : ¬ gc = w3.heap.size + 1 := (by omega); have m8 : ¬ w3.heap.size + 1 = gc := (by omega); have hF := own_fresh o3; have r3 := Reads.of_own o3; have s0 := (hbW.cell (p := ⟨b, off + k, none⟩) hbw).trans q0; have s1 := (hbW.cell (p := ⟨gc, 0, none⟩) hgb).trans x0; have s2 := (hbW.cell (p := ⟨gc, 1, none⟩) hgb).trans x1; have s3 := (hbW.cell (p := ⟨gc, 2, none⟩) hgb).trans x2; have s4 := (hbW.cell (p := ⟨gc, 3, none⟩) hgb).trans x3; have s5 := (hbW.cell (p := ⟨gc, 4, none⟩) hgb).trans x4; have s6 := (hbW.cell (p := ⟨gc, 5, none⟩) hgb).trans x5; have s7 := (hbW.cell (p := ⟨gc, 6, none⟩) hgb).trans x6; have eC : Blk w3 wr.heap.size 46 #[.int .i64 0, .int .i64 0, .slice none 0 0, .int .i64 0, .int .i64 0, .int .i64 0, .int .i64 0] := ((Blk.new wr _ _).drew.below b3 (by simp)); have fC := eC.frozen; have zC := eC.lt; have k1 := Nat.ne_of_lt eC.lt; have k2 := Nat.ne_of_gt eC.lt; have c0 := eC.cell 0; have c1 := eC.cell 1; have c2 := eC.cell 2; have c4 := eC.cell 3; have c5 := eC.cell 4; have c6 := eC.cell 5; have c7 := eC.cell 6; have hFF := (by simpa using hF : Fresh _ A3); clear b3)
            | (go_at_call 18; refine (CS.out _ (by first | exact rA.drew | exact (rA.alloc (Nat.le_refl _) _).drew | exact ((rA.alloc (Nat.le_refl _) _).alloc (by simp) _).drew) (by simp <;> omega)).mono ?_; rintro e w3 ⟨v, rfl, o3, b3⟩; unfold cliCells evCells; rw [HW.out] at o3; have hbW : Below wr.heap.size wr w3 := (by first | exact (Below.refl _ _).drew.trans (b3.mono (by simp)) | exact ((Below.refl _ _).alloc (Nat.le_refl _) _).drew.trans (b3.mono (by simp)) | exact (((Below.refl _ _).alloc (Nat.le_refl _) _).alloc (by simp) _).drew.trans (b3.mono (by simp <;> omega))); obtain ⟨A3, c3, rfl, hmc, _⟩ := own_shape o3; have hw3 := hbW.size; have m1 : ¬ b = w3.heap.size := (by omega); have m2 : ¬ w3.heap.size = b := (by omega); have m3 : ¬ gc = w3.heap.size := (by omega); have m4 : ¬ w3.heap.size = gc := (by omega); have m5 : ¬ b = w3.heap.size + 1 := (by omega); have m6 : ¬ w3.heap.size + 1 = b := (by omega); have m7 : ¬ gc = w3.heap.size + 1 := (by omega); have m8 : ¬ w3.heap.size + 1 = gc := (by omega); have hF := own_fresh o3; have r3 := Reads.of_own o3; have s0 := (hbW.cell (p := ⟨b, off + k, none⟩) hbw).trans q0; have s1 := (hbW.cell (p := ⟨gc, 0, none⟩) hgb).trans x0; have s2 := (hbW.cell (p := ⟨gc, 1, none⟩) hgb).trans x1; have s3 := (hbW.cell (p := ⟨gc, 2, none⟩) hgb).trans x2; have s4 := (hbW.cell (p := ⟨gc, 3, none⟩) hgb).trans x3; have s5 := (hbW.cell (p := ⟨gc, 4, none⟩) hgb).trans x4; have s6 := (hbW.cell (p := ⟨gc, 5, none⟩) hgb).trans x5; have s7 := (hbW.cell (p := ⟨gc, 6, none⟩) hgb).trans x6; have eE : Blk w3 wr.heap.size 58 #[.int .i64 0, .int .i64 0, .int .i64 0, .int .i64 0, .int .i64 0, .int .i64 0] := ((Blk.new wr _ _).drew.below b3 (by simp)); have fE := eE.frozen; have zE := eE.lt; have k3 := Nat.ne_of_lt eE.lt; have k4 := Nat.ne_of_gt eE.lt; have d0 := eE.cell 0; have d1 := eE.cell 1; have d2 := eE.cell 2; have d3 := eE.cell 3; have d4 := eE.cell 4; have d5 := eE.cell 5; have hFF := (by simpa using hF : Fresh _ A3); clear b3)
            | (go_at_call 18; refine (CS.out _ (by first | exact rA.drew | exact (rA.alloc (Nat.le_refl _) _).drew | exact ((rA.alloc (Nat.le_refl _) _).alloc (by simp) _).drew) (by simp <;> omega)).mono ?_; rintro e w3 ⟨v, rfl, o3, b3⟩; unfold cliCells evCells; rw [HW.out] at o3; have hbW : Below wr.heap.size wr w3 := (by first | exact (Below.refl _ _).drew.trans (b3.mono (by simp)) | exact ((Below.refl _ _).alloc (Nat.le_refl _) _).drew.trans (b3.mono (by simp)) | exact (((Below.refl _ _).alloc (Nat.le_refl _) _).alloc (by simp) _).drew.trans (b3.mono (by simp <;> omega))); obtain ⟨A3, c3, rfl, hmc, _⟩ := own_shape o3; have hw3 := hbW.size; have m1 : ¬ b = w3.heap.size := (by omega); have m2 : ¬ w3.heap.size = b := (by omega); have m3 : ¬ gc = w3.heap.size := (by omega); have m4 : ¬ w3.heap.size = gc := (by omega); have m5 : ¬ b = w3.heap.size + 1 := (by omega); have m6 : ¬ w3.heap.size + 1 = b := (by omega); have m7 : ¬ gc = w3.heap.size + 1 := (by omega); have m8 : ¬ w3.heap.size + 1 = gc := (by omega); have hF := own_fresh o3; have r3 := Reads.of_own o3; have s0 := (hbW.cell (p := ⟨b, off + k, none⟩) hbw).trans q0; have s1 := (hbW.cell (p := ⟨gc, 0, none⟩) hgb).trans x0; have s2 := (hbW.cell (p := ⟨gc, 1, none⟩) hgb).trans x1; have s3 := (hbW.cell (p := ⟨gc, 2, none⟩) hgb).trans x2; have s4 := (hbW.cell (p := ⟨gc, 3, none⟩) hgb).trans x3; have s5 := (hbW.cell (p := ⟨gc, 4, none⟩) hgb).trans x4; have s6 := (hbW.cell (p := ⟨gc, 5, none⟩) hgb).trans x5; have s7 := (hbW.cell (p := ⟨gc, 6, none⟩) hgb).trans x6; have hFF := (by simpa using hF : Fresh _ A3); clear b3))
        all_goals
          have hF0 := hFF.mono (a := wr.heap.size) (by omega)
          go_wp2_with fail
          go_meet
          refine ⟨_, _, A3, c3, rfl, rfl, rfl, ?_, hF0⟩
          first
            | with_reducible exact sent_ce2 (f := fun _ => -1) hbW hmc r3 rfl eC rfl eE hFF
            | with_reducible exact sent_ec2 (f := fun _ => -1) hbW hmc r3 rfl eC rfl eE hFF
            | with_reducible exact sent_c (f := fun _ => -1) hbW hmc r3 rfl eC hFF
            | with_reducible exact sent_e (f := fun _ => -1) hbW hmc r3 rfl eE hFF
            | with_reducible exact sent_ce (f := fun _ => -1) hbW hmc r3
            | with_reducible exact sent_ec (f := fun _ => -1) hbW hmc r3
      case rest =>
        obtain ⟨g8, g9, A1, c1, rfl, rfl, rfl, hS, hF1⟩ := hcut
        unfold Sent at hS
        obtain ⟨E8, E9, rB, hb8, hnc1⟩ := hS
        have hlt := E8.lt
        have hl9 := E9.lt
        have E' := E.below hb8 E.lt
        have bel8 := bel.trans (hb8.mono bel.size)
        have w0 : wc.cell? ⟨b, off + k, none⟩ = some (.int .i64 z) := (hb8.cell (p := ⟨b, off + k, none⟩) hbw).trans q0
        have hF2 : Fresh (gc + 1) A1 := hF1.mono (by omega)
        clear x0 x1 x2 x3 x4 x5 x6 E bel hb8 CS q0 ne1 ne2 ne3 ne4 ne5 ne6 ne7 ne8 rA hFr hF1
        obtain ⟨x0, x1, x2, x3, x4, x5, x6⟩ := cliBlk E8
        have y3 : wc.cell? ⟨g9, 3, none⟩ = some (.int .i64 body) := E9.cell 3
        clear E9
        go_wp2_with fail
        go_region_held3 (fun W => W.cell? ⟨b, off + k, none⟩ = some (.int .i64 z) ∧ W.cell? ⟨g9, 3, none⟩ = some (.int .i64 body)) (go_keep)
          (first
            | (go_at_call 9; refine (PZ.out _).mono ?_; rintro e w' ⟨rfl, rfl⟩))
        all_goals
          have Ed : Blk wc.drew gc _ _ := E'.drew
          have E8d : Blk wc.drew g8 _ _ := E8.drew
          have rD : Reads wc.drew wc.drew.heap.size 6 A1 (k + 1) (evRow P (sentW g (k + 1))) := rB.drew
          have belD : Below w.heap.size w wc.drew := bel8.drew
          generalize wc.drew = wd at *
          clear x0 x1 x2 x3 x4 x5 x6 y3 w0 E8 E' rB bel8 hlt hl9 PZ
          obtain ⟨x0, x1, x2, x3, x4, x5, x6⟩ := cliBlk E8d
          obtain ⟨v0, v1, v2, v3, v4, v5, v6⟩ := cliBlk Ed
          have xf := Ed.frozen
          have xz := Ed.lt
          go_wp2_with fail
          go_roundw
          case rel =>
            rw [put7_eq]
            exact ⟨k + 1, A1, c1, by omega, by omega, by go_num, by go_num, putFrom_blk Ed [.int .i64 P, .int .i64 ((k : Int) + 1), .slice A1 (k + 1) c1, .int .i64 (-1), .int .i64 (-1), .int .i64 (-1), .int .i64 (-1)] rfl, hnc1, (reads_put hF2 (Nat.lt_succ_self _) [.int .i64 P, .int .i64 ((k : Int) + 1), .slice A1 (k + 1) c1, .int .i64 (-1), .int .i64 (-1), .int .i64 (-1), .int .i64 (-1)] 0 _ rD).more (by rw [putFrom_size]; exact Nat.le_refl _), hF2, putFrom_below hgw [.int .i64 P, .int .i64 ((k : Int) + 1), .slice A1 (k + 1) c1, .int .i64 (-1), .int .i64 (-1), .int .i64 (-1), .int .i64 (-1)] 0 _ belD⟩
          case measure => simp [intOf]; omega
    · have hk1 : ¬ (k : Int) < (n : Int) ∨ (k : Int) < (n : Int) ∧ k = 8 := by omega
      clear hr HI HG hcond
      obtain ⟨x0, x1, x2, x3, x4, x5, x6⟩ := cliBlk E
      have xz := E.lt
      by_cases h8 : k = 8
      · subst h8
        have CF := Lib.hid (fun W hr hB => csend_full P 8 1 A0 8 cc wr.heap.size (sentW g 8) (fun _ => -1) W (clok_sent g hgB.out P 8 (by omega) (by omega) (by omega)) (sentW_len g 8) (by omega) hr hB (by omega) (by omega) (by rw [sentW_get g 8 0 (by omega)]; simp) (by omega) (by omega))
        rcases hk1 with hI1 | ⟨hI1, _⟩
        · have hI1' : ¬ (8 : Int) < (n : Int) := by omega
          clear hI1
          go_wp2_with fail
          refine (CF.out _ rA (Nat.le_refl _)).mono ?_
          rintro e w2 ⟨rfl, b2⟩
          have E2 := E.below b2 E.lt
          have rA2 := rA.below b2
          have bel2 := bel.trans (b2.mono bel.size)
          have hs2 := b2.size
          have be2 := (bel2.alloc bel2.size (.cells #[.int .i64 0, .int .i64 0, .slice none 0 0, .int .i64 0, .int .i64 0, .int .i64 0, .int .i64 0] 46)).alloc (by have := bel2.size; simp; omega) (.cells #[.int .i64 0, .int .i64 0, .int .i64 0, .int .i64 0, .int .i64 0, .int .i64 0] 58)
          clear x0 x1 x2 x3 x4 x5 x6 xz E rA bel b2 CF
          obtain ⟨x0, x1, x2, x3, x4, x5, x6⟩ := cliBlk E2
          have xz := E2.lt
          unfold cliCells
          have j0 := pick_lo wh 8 (by omega)
          have j1 := pick_hi wh 8 (by omega)
          have PW := Lib.hid (fun W => picked_any wh 8 W hw1 hw2 (by omega) (by omega))
          generalize pick wh 8 = jI at *
          obtain ⟨j, rfl⟩ := Int.eq_ofNat_of_zero_le j0
          have hj : j < 8 := by omega
          have CD := Lib.hid (fun W hr hB => cdone_ok P 8 A0 8 cc wr.heap.size (sentW g 8) (fun _ => -1) j j W (clok_sent g hgB.out P 8 (by omega) (by omega) (by omega)) (sentW_len g 8) (by omega) hkc hr hB hj (by rw [sentW_get g 8 j hj]) (fun t ht => by rw [sentW_get g 8 t (by omega)]; simp; omega))
          have CN := Lib.hid (fun A4 c4 B W hr hB => cdone_none P 8 A4 (8 - 1) c4 B ((sentW g 8).take j ++ (sentW g 8).drop (j + 1)) (fun _ => -1) j W (clok_del (clok_sent g hgB.out P 8 (by omega) (by omega) (by omega)) j (by rw [sentW_len]; exact hj)) (by rw [List.length_append, List.length_take, List.length_drop, sentW_len]; omega) (by omega) hr hB (fun t ht => del_no g 8 j t hj ht))
          have iw : IntKind.i64.wrap (8 - 1) = 8 - 1 := IntWalk.i64_in _ (by omega)
          have hkc1 : (((8 - 1 : Nat)) : Int) = 8 - 1 := by omega
          clear j0 j1 hw1 hw2
          go_wp2_with fail
          refine (PW.out _).mono ?_
          rintro e w' ⟨rfl, rfl⟩
          go_wp2_with fail
          refine (CD.out _ ((rA2.alloc (by omega) _).alloc (by simp; omega) _) (by simp; omega)).mono ?_
          rintro e w4 ⟨v, rfl, o4, b4⟩
          obtain ⟨A4, c4, rfl, _, _⟩ := own_shape o4
          have bel4 := be2.trans (b4.mono (be2).size)
          clear x0 x1 x2 x3 x4 x5 x6 xz b4 CD PW
          have D4 := Blk.new w4 46 (cliCells P 8 (.slice A4 (8 - 1) c4) (fun _ => -1))
          unfold cliCells
          go_wp2_with fail
          refine (CN.out A4 c4 w4.heap.size _ ((Reads.of_own o4).alloc (Nat.le_refl _) _) (by simp)).mono ?_
          rintro e w5 ⟨rfl, b5⟩
          have D5 := D4.below b5 D4.lt
          have bel5 := (bel4.alloc bel4.size _).trans (b5.mono (by have := bel4.size; simp; omega))
          clear D4 o4 b5 CN
          have d1 : w5.cell? ⟨w4.heap.size, 1, none⟩ = some (.int .i64 8) := D5.cell 1
          have d2 : w5.cell? ⟨w4.heap.size, 2, none⟩ = some (.slice A4 (8 - 1) c4) := D5.cell 2
          have dz := D5.lt
          unfold cliCells
          go_wp2_with fail
          go_ret
          exact ⟨ret_true (by simp <;> omega), bel5.alloc bel5.size _⟩
        · have hI1' : (8 : Int) < (n : Int) := by omega
          clear hI1
          go_wp2_with fail
          refine (CF.out _ rA (Nat.le_refl _)).mono ?_
          rintro e w2 ⟨rfl, b2⟩
          have E2 := E.below b2 E.lt
          have rA2 := rA.below b2
          have bel2 := bel.trans (b2.mono bel.size)
          have hs2 := b2.size
          have be2 := (bel2.alloc bel2.size (.cells #[.int .i64 0, .int .i64 0, .slice none 0 0, .int .i64 0, .int .i64 0, .int .i64 0, .int .i64 0] 46)).alloc (by have := bel2.size; simp; omega) (.cells #[.int .i64 0, .int .i64 0, .int .i64 0, .int .i64 0, .int .i64 0, .int .i64 0] 58)
          clear x0 x1 x2 x3 x4 x5 x6 xz E rA bel b2 CF
          obtain ⟨x0, x1, x2, x3, x4, x5, x6⟩ := cliBlk E2
          have xz := E2.lt
          unfold cliCells
          have j0 := pick_lo wh 8 (by omega)
          have j1 := pick_hi wh 8 (by omega)
          have PW := Lib.hid (fun W => picked_any wh 8 W hw1 hw2 (by omega) (by omega))
          generalize pick wh 8 = jI at *
          obtain ⟨j, rfl⟩ := Int.eq_ofNat_of_zero_le j0
          have hj : j < 8 := by omega
          have CD := Lib.hid (fun W hr hB => cdone_ok P 8 A0 8 cc wr.heap.size (sentW g 8) (fun _ => -1) j j W (clok_sent g hgB.out P 8 (by omega) (by omega) (by omega)) (sentW_len g 8) (by omega) hkc hr hB hj (by rw [sentW_get g 8 j hj]) (fun t ht => by rw [sentW_get g 8 t (by omega)]; simp; omega))
          have CN := Lib.hid (fun A4 c4 B W hr hB => cdone_none P 8 A4 (8 - 1) c4 B ((sentW g 8).take j ++ (sentW g 8).drop (j + 1)) (fun _ => -1) j W (clok_del (clok_sent g hgB.out P 8 (by omega) (by omega) (by omega)) j (by rw [sentW_len]; exact hj)) (by rw [List.length_append, List.length_take, List.length_drop, sentW_len]; omega) (by omega) hr hB (fun t ht => del_no g 8 j t hj ht))
          have iw : IntKind.i64.wrap (8 - 1) = 8 - 1 := IntWalk.i64_in _ (by omega)
          have hkc1 : (((8 - 1 : Nat)) : Int) = 8 - 1 := by omega
          clear j0 j1 hw1 hw2
          go_wp2_with fail
          refine (PW.out _).mono ?_
          rintro e w' ⟨rfl, rfl⟩
          go_wp2_with fail
          refine (CD.out _ ((rA2.alloc (by omega) _).alloc (by simp; omega) _) (by simp; omega)).mono ?_
          rintro e w4 ⟨v, rfl, o4, b4⟩
          obtain ⟨A4, c4, rfl, _, _⟩ := own_shape o4
          have bel4 := be2.trans (b4.mono (be2).size)
          clear x0 x1 x2 x3 x4 x5 x6 xz b4 CD PW
          have D4 := Blk.new w4 46 (cliCells P 8 (.slice A4 (8 - 1) c4) (fun _ => -1))
          unfold cliCells
          go_wp2_with fail
          refine (CN.out A4 c4 w4.heap.size _ ((Reads.of_own o4).alloc (Nat.le_refl _) _) (by simp)).mono ?_
          rintro e w5 ⟨rfl, b5⟩
          have D5 := D4.below b5 D4.lt
          have bel5 := (bel4.alloc bel4.size _).trans (b5.mono (by have := bel4.size; simp; omega))
          clear D4 o4 b5 CN
          have d1 : w5.cell? ⟨w4.heap.size, 1, none⟩ = some (.int .i64 8) := D5.cell 1
          have d2 : w5.cell? ⟨w4.heap.size, 2, none⟩ = some (.slice A4 (8 - 1) c4) := D5.cell 2
          have dz := D5.lt
          unfold cliCells
          go_wp2_with fail
          go_ret
          exact ⟨ret_true (by simp <;> omega), bel5.alloc bel5.size _⟩
      · have hI1 : ¬ (k : Int) < (n : Int) := by omega
        have h8' : ¬ (k : Int) = 8 := by omega
        clear hk1
        by_cases h0 : k = 0
        · subst h0
          have hI1' : ¬ (0 : Int) < (n : Int) := by omega
          have CN := Lib.hid (fun W => cdone_none P 0 A0 0 cc 0 [] (fun _ => -1) 0 W (clok_at0 P 0 (by omega) (by omega) (by omega) (by omega)) rfl (by omega) Reads.none_ (Nat.zero_le _) (fun t ht => absurd ht (by omega)))
          clear hI1
          go_wp2_with fail
          refine (CN.out _).mono ?_
          rintro e w3 ⟨rfl, b3⟩
          have bel3 := bel.trans (b3.mono bel.size)
          clear x0 x1 x2 x3 x4 x5 x6 xz E bel b3 CN
          unfold cliCells
          go_wp2_with fail
          go_ret
          exact ⟨ret_true (by simp), bel3.alloc bel3.size _⟩
        · have h0' : ¬ (k : Int) = 0 := by omega
          have j0 := pick_lo wh (k : Int) (by omega)
          have j1 := pick_hi wh (k : Int) (by omega)
          have PW := Lib.hid (fun W => picked_any wh (k : Int) W hw1 hw2 (by omega) (by omega))
          generalize pick wh (k : Int) = jI at *
          obtain ⟨j, rfl⟩ := Int.eq_ofNat_of_zero_le j0
          have hj : j < k := by omega
          have CD := Lib.hid (fun W hr hB => cdone_ok P (k : Int) A0 k cc wr.heap.size (sentW g k) (fun _ => -1) j j W (clok_sent g hgB.out P k (by omega) (by omega) (by omega)) (sentW_len g k) (by omega) hkc hr hB hj (by rw [sentW_get g k j hj]) (fun t ht => by rw [sentW_get g k t (by omega)]; simp; omega))
          have CN := Lib.hid (fun A4 c4 B W hr hB => cdone_none P (k : Int) A4 (k - 1) c4 B ((sentW g k).take j ++ (sentW g k).drop (j + 1)) (fun _ => -1) j W (clok_del (clok_sent g hgB.out P k (by omega) (by omega) (by omega)) j (by rw [sentW_len]; exact hj)) (by rw [List.length_append, List.length_take, List.length_drop, sentW_len]; omega) (by omega) hr hB (fun t ht => del_no g k j t hj ht))
          have iw : IntKind.i64.wrap ((k : Int) - 1) = (k : Int) - 1 := IntWalk.i64_in _ (by omega)
          have hkc1 : (((k - 1 : Nat)) : Int) = (k : Int) - 1 := by omega
          clear j0 j1 hw1 hw2
          go_wp2_with fail
          refine (PW.out _).mono ?_
          rintro e w' ⟨rfl, rfl⟩
          go_wp2_with fail
          refine (CD.out _ rA (Nat.le_refl _)).mono ?_
          rintro e w4 ⟨v, rfl, o4, b4⟩
          obtain ⟨A4, c4, rfl, _, _⟩ := own_shape o4
          have bel4 := bel.trans (b4.mono (bel).size)
          clear x0 x1 x2 x3 x4 x5 x6 xz b4 CD PW
          have D4 := Blk.new w4 46 (cliCells P (k : Int) (.slice A4 (k - 1) c4) (fun _ => -1))
          unfold cliCells
          go_wp2_with fail
          refine (CN.out A4 c4 w4.heap.size _ ((Reads.of_own o4).alloc (Nat.le_refl _) _) (by simp)).mono ?_
          rintro e w5 ⟨rfl, b5⟩
          have D5 := D4.below b5 D4.lt
          have bel5 := (bel4.alloc bel4.size _).trans (b5.mono (by have := bel4.size; simp; omega))
          clear D4 o4 b5 CN
          have d1 : w5.cell? ⟨w4.heap.size, 1, none⟩ = some (.int .i64 (k : Int)) := D5.cell 1
          have d2 : w5.cell? ⟨w4.heap.size, 2, none⟩ = some (.slice A4 (k - 1) c4) := D5.cell 2
          have dz := D5.lt
          unfold cliCells
          go_wp2_with fail
          go_ret
          exact ⟨ret_true (by simp <;> omega), bel5.alloc bel5.size _⟩

end Go.Proofs.Ytcbpgmpbjcknbaa
