/- ClientIds: the walk. -/
import Derived.Test.YtcbpgmpbjcknbaaSent
import Derived.Deep.RegionHeld3
import Derived.BigRegion
namespace Go.Proofs.Ytcbpgmpbjcknbaa
open Go.RowKit

theorem clok_at (p nx : Int) (h0 : 0 ≤ p) (h1 : p ≤ 3) (h2 : 0 ≤ nx) (h3 : nx ≤ 1073741824) : ClOk p nx [] (fun _ => -1) := ⟨h0, h1, h2, h3, fun j hj => absurd hj (by simp), fun j hj => by omega⟩
theorem clok_one (p nx body : Int) (h0 : 0 ≤ p) (h1 : p ≤ 3) (h2 : 0 ≤ nx) (h3 : nx < 1073741824) (h4 : 0 ≤ body) (h5 : body ≤ 1000000) : ClOk p (nx + 1) [(nx, body)] (fun _ => -1) := by
  refine ⟨h0, h1, by omega, by omega, fun j hj => ?_, fun j hj => by omega⟩
  have : j = 0 := by simpa using hj
  subst this
  simp [lastOf]
  omega

set_option maxRecDepth 100000 in
set_option maxHeartbeats 8000000 in
theorem clientIds_walk (pr : Int) (A : Option Addr) (n c : Nat) (zs : List Int) (w : World) (hpr : Is64 pr) (h : IsNums .i64 8 w A n c zs) :
    Calls Try.prog 8 #[.int .i64 pr, .slice A n c] w fun e w' => e = .returned (.bool true) ∧ Below w.heap.size w w' := by
  obtain ⟨hl, hnc, hcb, hr, hwf⟩ := h
  obtain ⟨hp1, hp2⟩ := hpr
  have p0 := pick_lo pr 4 (by omega)
  have p1 := pick_hi pr 4 (by omega)
  have P0 := fun W => Lib.hid (picked_any pr 4 W hp1 hp2 (by omega) (by omega))
  generalize pick pr 4 = P at *
  go_enter Try.func8, Try.ntmps8
  go_wp2_with fail
  refine ((P0 _).out).mono ?_
  rintro e w1 ⟨rfl, rfl⟩
  go_wp2_with fail
  refine (cnew_ok P _ (by omega) (by omega)).mono ?_
  rintro e w1 ⟨rfl, b1⟩
  have bel1 : Below w.heap.size w w1 := b1
  clear b1
  have E0 := Blk.new w1 46 (cliCells P 0 (.slice none 0 0) (fun _ => -1))
  have bel0 := bel1.alloc bel1.size (.cells (cliCells P 0 (.slice none 0 0) (fun _ => -1)) 46)
  obtain ⟨gc, hgc⟩ : ∃ gc, gc = w1.heap.size := ⟨_, rfl⟩
  have hgw : w.heap.size ≤ gc := by rw [hgc]; exact bel1.size
  rw [← hgc] at E0
  unfold cliCells
  go_wp2_with fail
  rw [← hgc] at ⊢
  have hIn : ∀ k, k < n → Is64 (zs.getD k 0) := fun k hk => is64_of_wf (by have := hwf (zs.getD k 0) (by rw [List.getD, List.getElem?_eq_getElem (show k < zs.length by omega)]; simp); simpa using this)
  go_loopw [7] (fun s7 wr => ∃ (k : Nat) (A0 : Option Addr) (cc : Nat), k ≤ n ∧ k ≤ 60 ∧ s7 = .int .i64 k ∧ Blk wr gc 46 (cliCells P k (.slice A0 0 cc) (fun _ => -1)) ∧ Below w.heap.size w wr) (fun s7 _ => 60 - (intOf s7).toNat)
  case atStart => exact ⟨0, none, 0, by omega, by omega, rfl, E0, bel0⟩
  case round =>
    clear E0 bel0 bel1 hgc
    obtain ⟨k, A0, cc, hk, hk60, rfl, E, bel⟩ := hrel
    by_cases hcond : k < n ∧ k < 60
    · obtain ⟨hkn, hk2⟩ := hcond
      have hI1 : (k : Int) < (n : Int) := by omega
      have hI2 : (k : Int) < 60 := by omega
      have i1 : IntKind.i64.wrap ((k : Int) + 1) = (k : Int) + 1 := IntWalk.i64_in _ (by omega)
      have hz := hIn k hkn
      clear hIn
      obtain ⟨x0, x1, x2, x3, x4, x5, x6⟩ := cliBlk E
      have h2 : (List.map (Value.int IntKind.i64) zs)[k]? = some (.int .i64 (zs.getD k 0)) := by
        rw [List.getElem?_map, List.getElem?_eq_getElem (show k < zs.length by omega), List.getD, List.getElem?_eq_getElem (show k < zs.length by omega)]
        rfl
      obtain ⟨b, off, hA, hb, hcell⟩ := (hr.below bel).plain (by omega) (by omega)
      subst hA
      have q0 : wr.cell? ⟨b, off + k, none⟩ = some (.int .i64 (zs.getD k 0)) := by
        have := hcell k _ h2
        simpa using this
      have hbw : b < wr.heap.size := by have := bel.size; omega
      clear hcell h2 hr hwf
      obtain ⟨hz1, hz2⟩ := hz
      generalize zs.getD k 0 = z at *
      have p2 := pick_lo z 1000 (by omega)
      have p3 := pick_hi z 1000 (by omega)
      have PZ := Lib.hid (fun W => picked_any z 1000 W hz1 hz2 (by omega) (by omega))
      generalize pick z 1000 = body at *
      have CS := Lib.hid (fun W => csend_ok P k body A0 0 cc 0 [] (fun _ => -1) W (clok_at P k (by omega) (by omega) (by omega) (by omega)) rfl (by omega) (Nat.zero_le _) Reads.none_ (Nat.zero_le _) (by omega) (.inl rfl) (by omega) (by omega))
      have hgb : gc < wr.heap.size := E.lt
      have ne1 : ¬ b = wr.heap.size := by omega
      have ne2 : ¬ wr.heap.size = b := by omega
      have ne3 : ¬ gc = wr.heap.size := by omega
      have ne4 : ¬ wr.heap.size = gc := by omega
      have ne5 : ¬ b = wr.heap.size + 1 := by omega
      have ne6 : ¬ wr.heap.size + 1 = b := by omega
      have ne7 : ¬ gc = wr.heap.size + 1 := by omega
      have ne8 : ¬ wr.heap.size + 1 = gc := by omega
      go_upto_region 5 with fail
      go_cut [8, 9, 10] (fun s8 s9 s10 wx => ∃ g8 g9 A1 c1, s8 = .pointer (some ⟨g8, 0, none⟩) ∧ s9 = .pointer (some ⟨g9, 0, none⟩) ∧ s10 = .int .i64 0 ∧ Sent wr P k body (fun _ => -1) 1 c1 A1 (evRow P [((k : Int), body)]) g8 g9 wx)
      case first =>
        go_region_held3 (fun W => W.cell? ⟨b, off + k, none⟩ = some (.int .i64 z) ∧ W.cell? ⟨gc, 0, none⟩ = some (.int .i64 P) ∧ W.cell? ⟨gc, 1, none⟩ = some (.int .i64 k) ∧ W.cell? ⟨gc, 2, none⟩ = some (.slice A0 0 cc) ∧ W.cell? ⟨gc, 3, none⟩ = some (.int .i64 (-1)) ∧ W.cell? ⟨gc, 4, none⟩ = some (.int .i64 (-1)) ∧ W.cell? ⟨gc, 5, none⟩ = some (.int .i64 (-1)) ∧ W.cell? ⟨gc, 6, none⟩ = some (.int .i64 (-1))) (go_keep)
          (first
            | (go_at_call 9; refine (PZ.out _).mono ?_; rintro e w' ⟨rfl, rfl⟩)
            | (go_at_call 18; refine (CS.out _).mono ?_; rintro e w3 ⟨v, rfl, o3, b3⟩; unfold cliCells evCells; simp only [Nat.zero_add, List.nil_append] at o3; have hbW : Below wr.heap.size wr w3 := (by first | exact (Below.refl _ _).drew.trans (b3.mono (by simp)) | exact ((Below.refl _ _).alloc (Nat.le_refl _) _).drew.trans (b3.mono (by simp)) | exact (((Below.refl _ _).alloc (Nat.le_refl _) _).alloc (by simp) _).drew.trans (b3.mono (by simp <;> omega))); obtain ⟨A3, c3, rfl, hmc, _⟩ := own_shape o3; have hw3 := hbW.size; have m1 : ¬ b = w3.heap.size := (by omega); have m2 : ¬ w3.heap.size = b := (by omega); have m3 : ¬ gc = w3.heap.size := (by omega); have m4 : ¬ w3.heap.size = gc := (by omega); have m5 : ¬ b = w3.heap.size + 1 := (by omega); have m6 : ¬ w3.heap.size + 1 = b := (by omega); have m7 : ¬ gc = w3.heap.size + 1 := (by omega); have m8 : ¬ w3.heap.size + 1 = gc := (by omega); have hF := own_fresh o3; have r3 := Reads.of_own o3; have s0 := (hbW.cell (p := ⟨b, off + k, none⟩) hbw).trans q0; have s1 := (hbW.cell (p := ⟨gc, 0, none⟩) hgb).trans x0; have s2 := (hbW.cell (p := ⟨gc, 1, none⟩) hgb).trans x1; have s3 := (hbW.cell (p := ⟨gc, 2, none⟩) hgb).trans x2; have s4 := (hbW.cell (p := ⟨gc, 3, none⟩) hgb).trans x3; have s5 := (hbW.cell (p := ⟨gc, 4, none⟩) hgb).trans x4; have s6 := (hbW.cell (p := ⟨gc, 5, none⟩) hgb).trans x5; have s7 := (hbW.cell (p := ⟨gc, 6, none⟩) hgb).trans x6; have eC : Blk w3 wr.heap.size 46 #[.int .i64 0, .int .i64 0, .slice none 0 0, .int .i64 0, .int .i64 0, .int .i64 0, .int .i64 0] := (((Blk.new wr _ _).alloc _).drew.below b3 (by simp <;> omega)); have eE : Blk w3 (wr.heap.size + 1) 58 #[.int .i64 0, .int .i64 0, .int .i64 0, .int .i64 0, .int .i64 0, .int .i64 0] := ((Blk.new' (w := wr.alloc _) (by simp)).drew.below b3 (by simp)); have fC := eC.frozen; have zC := eC.lt; have k1 := Nat.ne_of_lt eC.lt; have k2 := Nat.ne_of_gt eC.lt; have c0 := eC.cell 0; have c1 := eC.cell 1; have c2 := eC.cell 2; have c4 := eC.cell 3; have c5 := eC.cell 4; have c6 := eC.cell 5; have c7 := eC.cell 6; have fE := eE.frozen; have zE := eE.lt; have k3 := Nat.ne_of_lt eE.lt; have k4 := Nat.ne_of_gt eE.lt; have d0 := eE.cell 0; have d1 := eE.cell 1; have d2 := eE.cell 2; have d3 := eE.cell 3; have d4 := eE.cell 4; have d5 := eE.cell 5; have hFF := (by simpa using hF : Fresh _ A3); clear b3)
            | (go_at_call 18; refine (CS.out _).mono ?_; rintro e w3 ⟨v, rfl, o3, b3⟩; unfold cliCells evCells; simp only [Nat.zero_add, List.nil_append] at o3; have hbW : Below wr.heap.size wr w3 := (by first | exact (Below.refl _ _).drew.trans (b3.mono (by simp)) | exact ((Below.refl _ _).alloc (Nat.le_refl _) _).drew.trans (b3.mono (by simp)) | exact (((Below.refl _ _).alloc (Nat.le_refl _) _).alloc (by simp) _).drew.trans (b3.mono (by simp <;> omega))); obtain ⟨A3, c3, rfl, hmc, _⟩ := own_shape o3; have hw3 := hbW.size; have m1 : ¬ b = w3.heap.size := (by omega); have m2 : ¬ w3.heap.size = b := (by omega); have m3 : ¬ gc = w3.heap.size := (by omega); have m4 : ¬ w3.heap.size = gc := (by omega); have m5 : ¬ b = w3.heap.size + 1 := (by omega); have m6 : ¬ w3.heap.size + 1 = b := (by omega); have m7 : ¬ gc = w3.heap.size + 1 := (by omega); have m8 : ¬ w3.heap.size + 1 = gc := (by omega); have hF := own_fresh o3; have r3 := Reads.of_own o3; have s0 := (hbW.cell (p := ⟨b, off + k, none⟩) hbw).trans q0; have s1 := (hbW.cell (p := ⟨gc, 0, none⟩) hgb).trans x0; have s2 := (hbW.cell (p := ⟨gc, 1, none⟩) hgb).trans x1; have s3 := (hbW.cell (p := ⟨gc, 2, none⟩) hgb).trans x2; have s4 := (hbW.cell (p := ⟨gc, 3, none⟩) hgb).trans x3; have s5 := (hbW.cell (p := ⟨gc, 4, none⟩) hgb).trans x4; have s6 := (hbW.cell (p := ⟨gc, 5, none⟩) hgb).trans x5; have s7 := (hbW.cell (p := ⟨gc, 6, none⟩) hgb).trans x6; have eE : Blk w3 wr.heap.size 58 #[.int .i64 0, .int .i64 0, .int .i64 0, .int .i64 0, .int .i64 0, .int .i64 0] := (((Blk.new wr _ _).alloc _).drew.below b3 (by simp <;> omega)); have eC : Blk w3 (wr.heap.size + 1) 46 #[.int .i64 0, .int .i64 0, .slice none 0 0, .int .i64 0, .int .i64 0, .int .i64 0, .int .i64 0] := ((Blk.new' (w := wr.alloc _) (by simp)).drew.below b3 (by simp)); have fC := eC.frozen; have zC := eC.lt; have k1 := Nat.ne_of_lt eC.lt; have k2 := Nat.ne_of_gt eC.lt; have c0 := eC.cell 0; have c1 := eC.cell 1; have c2 := eC.cell 2; have c4 := eC.cell 3; have c5 := eC.cell 4; have c6 := eC.cell 5; have c7 := eC.cell 6; have fE := eE.frozen; have zE := eE.lt; have k3 := Nat.ne_of_lt eE.lt; have k4 := Nat.ne_of_gt eE.lt; have d0 := eE.cell 0; have d1 := eE.cell 1; have d2 := eE.cell 2; have d3 := eE.cell 3; have d4 := eE.cell 4; have d5 := eE.cell 5; have hFF := (by simpa using hF : Fresh _ A3); clear b3)
            | (go_at_call 18; refine (CS.out _).mono ?_; rintro e w3 ⟨v, rfl, o3, b3⟩; unfold cliCells evCells; simp only [Nat.zero_add, List.nil_append] at o3; have hbW : Below wr.heap.size wr w3 := (by first | exact (Below.refl _ _).drew.trans (b3.mono (by simp)) | exact ((Below.refl _ _).alloc (Nat.le_refl _) _).drew.trans (b3.mono (by simp)) | exact (((Below.refl _ _).alloc (Nat.le_refl _) _).alloc (by simp) _).drew.trans (b3.mono (by simp <;> omega))); obtain ⟨A3, c3, rfl, hmc, _⟩ := own_shape o3; have hw3 := hbW.size; have m1 : ¬ b = w3.heap.size := (by omega); have m2 : ¬ w3.heap.size = b := (by omega); have m3 : ¬ gc = w3.heap.size := (by omega); have m4 : ¬ w3.heap.size = gc := (by omega); have m5 : ¬ b = w3.heap.size + 1 := (by omega); have m6 : ¬ w3.heap.size + 1 = b := (by omega); have m7 : ¬ gc = w3.heap.size + 1 := (by omega); have m8 : ¬ w3.heap.size + 1 = gc := (by omega); have hF := own_fresh o3; have r3 := Reads.of_own o3; have s0 := (hbW.cell (p := ⟨b, off + k, none⟩) hbw).trans q0; have s1 := (hbW.cell (p := ⟨gc, 0, none⟩) hgb).trans x0; have s2 := (hbW.cell (p := ⟨gc, 1, none⟩) hgb).trans x1; have s3 := (hbW.cell (p := ⟨gc, 2, none⟩) hgb).trans x2; have s4 := (hbW.cell (p := ⟨gc, 3, none⟩) hgb).trans x3; have s5 := (hbW.cell (p := ⟨gc, 4, none⟩) hgb).trans x4; have s6 := (hbW.cell (p := ⟨gc, 5, none⟩) hgb).trans x5; have s7 := (hbW.cell (p := ⟨gc, 6, none⟩) hgb).trans x6; have eC : Blk w3 wr.heap.size 46 #[.int .i64 0, .int .i64 0, .slice none 0 0, .int .i64 0, .int .i64 0, .int .i64 0, .int .i64 0] := ((Blk.new wr _ _).drew.below b3 (by simp)); have fC := eC.frozen; have zC := eC.lt; have k1 := Nat.ne_of_lt eC.lt; have k2 := Nat.ne_of_gt eC.lt; have c0 := eC.cell 0; have c1 := eC.cell 1; have c2 := eC.cell 2; have c4 := eC.cell 3; have c5 := eC.cell 4; have c6 := eC.cell 5; have c7 := eC.cell 6; have hFF := (by simpa using hF : Fresh _ A3); clear b3)
            | (go_at_call 18; refine (CS.out _).mono ?_; rintro e w3 ⟨v, rfl, o3, b3⟩; unfold cliCells evCells; simp only [Nat.zero_add, List.nil_append] at o3; have hbW : Below wr.heap.size wr w3 := (by first | exact (Below.refl _ _).drew.trans (b3.mono (by simp)) | exact ((Below.refl _ _).alloc (Nat.le_refl _) _).drew.trans (b3.mono (by simp)) | exact (((Below.refl _ _).alloc (Nat.le_refl _) _).alloc (by simp) _).drew.trans (b3.mono (by simp <;> omega))); obtain ⟨A3, c3, rfl, hmc, _⟩ := own_shape o3; have hw3 := hbW.size; have m1 : ¬ b = w3.heap.size := (by omega); have m2 : ¬ w3.heap.size = b := (by omega); have m3 : ¬ gc = w3.heap.size := (by omega); have m4 : ¬ w3.heap.size = gc := (by omega); have m5 : ¬ b = w3.heap.size + 1 := (by omega); have m6 : ¬ w3.heap.size + 1 = b := (by omega); have m7 : ¬ gc = w3.heap.size + 1 := (by omega); have m8 : ¬ w3.heap.size + 1 = gc := (by omega); have hF := own_fresh o3; have r3 := Reads.of_own o3; have s0 := (hbW.cell (p := ⟨b, off + k, none⟩) hbw).trans q0; have s1 := (hbW.cell (p := ⟨gc, 0, none⟩) hgb).trans x0; have s2 := (hbW.cell (p := ⟨gc, 1, none⟩) hgb).trans x1; have s3 := (hbW.cell (p := ⟨gc, 2, none⟩) hgb).trans x2; have s4 := (hbW.cell (p := ⟨gc, 3, none⟩) hgb).trans x3; have s5 := (hbW.cell (p := ⟨gc, 4, none⟩) hgb).trans x4; have s6 := (hbW.cell (p := ⟨gc, 5, none⟩) hgb).trans x5; have s7 := (hbW.cell (p := ⟨gc, 6, none⟩) hgb).trans x6; have eE : Blk w3 wr.heap.size 58 #[.int .i64 0, .int .i64 0, .int .i64 0, .int .i64 0, .int .i64 0, .int .i64 0] := ((Blk.new wr _ _).drew.below b3 (by simp)); have fE := eE.frozen; have zE := eE.lt; have k3 := Nat.ne_of_lt eE.lt; have k4 := Nat.ne_of_gt eE.lt; have d0 := eE.cell 0; have d1 := eE.cell 1; have d2 := eE.cell 2; have d3 := eE.cell 3; have d4 := eE.cell 4; have d5 := eE.cell 5; have hFF := (by simpa using hF : Fresh _ A3); clear b3)
            | (go_at_call 18; refine (CS.out _).mono ?_; rintro e w3 ⟨v, rfl, o3, b3⟩; unfold cliCells evCells; simp only [Nat.zero_add, List.nil_append] at o3; have hbW : Below wr.heap.size wr w3 := (by first | exact (Below.refl _ _).drew.trans (b3.mono (by simp)) | exact ((Below.refl _ _).alloc (Nat.le_refl _) _).drew.trans (b3.mono (by simp)) | exact (((Below.refl _ _).alloc (Nat.le_refl _) _).alloc (by simp) _).drew.trans (b3.mono (by simp <;> omega))); obtain ⟨A3, c3, rfl, hmc, _⟩ := own_shape o3; have hw3 := hbW.size; have m1 : ¬ b = w3.heap.size := (by omega); have m2 : ¬ w3.heap.size = b := (by omega); have m3 : ¬ gc = w3.heap.size := (by omega); have m4 : ¬ w3.heap.size = gc := (by omega); have m5 : ¬ b = w3.heap.size + 1 := (by omega); have m6 : ¬ w3.heap.size + 1 = b := (by omega); have m7 : ¬ gc = w3.heap.size + 1 := (by omega); have m8 : ¬ w3.heap.size + 1 = gc := (by omega); have hF := own_fresh o3; have r3 := Reads.of_own o3; have s0 := (hbW.cell (p := ⟨b, off + k, none⟩) hbw).trans q0; have s1 := (hbW.cell (p := ⟨gc, 0, none⟩) hgb).trans x0; have s2 := (hbW.cell (p := ⟨gc, 1, none⟩) hgb).trans x1; have s3 := (hbW.cell (p := ⟨gc, 2, none⟩) hgb).trans x2; have s4 := (hbW.cell (p := ⟨gc, 3, none⟩) hgb).trans x3; have s5 := (hbW.cell (p := ⟨gc, 4, none⟩) hgb).trans x4; have s6 := (hbW.cell (p := ⟨gc, 5, none⟩) hgb).trans x5; have s7 := (hbW.cell (p := ⟨gc, 6, none⟩) hgb).trans x6; have hFF := (by simpa using hF : Fresh _ A3); clear b3))
        all_goals
          go_wp2_with fail
          go_meet
          refine ⟨_, _, A3, c3, rfl, rfl, rfl, ?_⟩
          first
            | with_reducible exact sent_ce2 (f := fun _ => -1) hbW hmc r3 rfl eC rfl eE hFF
            | with_reducible exact sent_ec2 (f := fun _ => -1) hbW hmc r3 rfl eC rfl eE hFF
            | with_reducible exact sent_c (f := fun _ => -1) hbW hmc r3 rfl eC hFF
            | with_reducible exact sent_e (f := fun _ => -1) hbW hmc r3 rfl eE hFF
            | with_reducible exact sent_ce (f := fun _ => -1) hbW hmc r3
            | with_reducible exact sent_ec (f := fun _ => -1) hbW hmc r3
      case rest =>
        obtain ⟨g8, g9, A1, c1, rfl, rfl, rfl, hS⟩ := hcut
        unfold Sent at hS
        obtain ⟨E8, E9, rA, hb8, hnc1⟩ := hS
        have hlt := E8.lt
        have hl9 := E9.lt
        have E' := E.below hb8 E.lt
        have bel8 := bel.trans (hb8.mono bel.size)
        clear x0 x1 x2 x3 x4 x5 x6 E bel hb8 CS PZ q0 ne1 ne2 ne3 ne4 ne5 ne6 ne7 ne8
        obtain ⟨x0, x1, x2, x3, x4, x5, x6⟩ := cliBlk E8
        have y0 : wc.cell? ⟨g9, 0, none⟩ = some (.int .i64 1) := E9.cell 0
        have y1 : wc.cell? ⟨g9, 1, none⟩ = some (.int .i64 P) := E9.cell 1
        have y2 : wc.cell? ⟨g9, 2, none⟩ = some (.int .i64 (k)) := E9.cell 2
        have y3 : wc.cell? ⟨g9, 3, none⟩ = some (.int .i64 body) := E9.cell 3
        have y4 : wc.cell? ⟨g9, 4, none⟩ = some (.int .i64 0) := E9.cell 4
        have y5 : wc.cell? ⟨g9, 5, none⟩ = some (.int .i64 0) := E9.cell 5
        have hck := cli_ev_ok (p := P) (id := k) (body := body) (by omega) (by omega) (by omega) (by omega) (by omega) (by omega)
        have CK := Lib.hid (fun W => check_any 1 P k body 0 0 W)
        rw [hck] at CK
        clear hck
        have CD := Lib.hid (fun W hr (hb : wc.heap.size ≤ W.heap.size) => cdone_ok P (k + 1) A1 1 c1 wc.heap.size [((k : Int), body)] (fun _ => -1) k 0 W (clok_one P k body (by omega) (by omega) (by omega) (by omega) (by omega) (by omega)) rfl (by omega) hnc1 hr hb (by omega) rfl (fun t ht => by omega))
        go_wp2_with fail
        go_region_held3 (fun W => W.cell? ⟨g9, 0, none⟩ = some (.int .i64 1) ∧ W.cell? ⟨g9, 1, none⟩ = some (.int .i64 P) ∧ W.cell? ⟨g9, 2, none⟩ = some (.int .i64 k) ∧ W.cell? ⟨g9, 3, none⟩ = some (.int .i64 body) ∧ W.cell? ⟨g9, 4, none⟩ = some (.int .i64 0) ∧ W.cell? ⟨g9, 5, none⟩ = some (.int .i64 0)) (go_keep)
          (first
            | (go_at_call 9; refine (P0 _).out.mono ?_; rintro e w' ⟨rfl, rfl⟩)
            | (go_at_call 20; refine (CK.out _).mono ?_; rintro e w3 ⟨rfl, b3⟩; have hbW : Below wc.heap.size wc w3 := (Below.refl _ _).drew.trans (b3.mono (by simp)); have s0 := (hbW.cell (p := ⟨g9, 0, none⟩) hl9).trans y0; have s1 := (hbW.cell (p := ⟨g9, 1, none⟩) hl9).trans y1; have s2 := (hbW.cell (p := ⟨g9, 2, none⟩) hl9).trans y2; have s3 := (hbW.cell (p := ⟨g9, 3, none⟩) hl9).trans y3; have s4 := (hbW.cell (p := ⟨g9, 4, none⟩) hl9).trans y4; have s5 := (hbW.cell (p := ⟨g9, 5, none⟩) hl9).trans y5; clear b3))
        all_goals
          have E8' := E8.below hbW hlt
          have Ec := E'.below hbW E'.lt
          have bel9 := bel8.trans (hbW.mono bel8.size)
          have rA' := rA.below hbW
          have hsz := hbW.size
          clear x0 x1 x2 x3 x4 x5 x6 y0 y1 y2 y3 y4 y5 s0 s1 s2 s3 s4 s5 E8 E9 E' bel8 rA hbW CK hl9 hlt
          obtain ⟨x0, x1, x2, x3, x4, x5, x6⟩ := cliBlk E8'
          have zl := E8'.lt
          go_wp2_with fail
          refine (CD.out _ rA' hsz).mono ?_
          rintro e w4 ⟨v, rfl, o4, b4⟩
          simp only [Nat.sub_self] at o4
          obtain ⟨A4, c4, rfl, _, _⟩ := own_shape o4
          have Ed := Ec.below b4 Ec.lt
          have bel10 := bel9.trans (b4.mono bel9.size)
          clear x0 x1 x2 x3 x4 x5 x6 E8' Ec bel9 rA' o4 b4 CD hsz zl
          obtain ⟨x0, x1, x2, x3, x4, x5, x6⟩ := cliBlk Ed
          have xf := Ed.frozen
          have xz := Ed.lt
          have xn : ¬ gc = w4.heap.size := by omega
          have xn' : ¬ w4.heap.size = gc := by omega
          unfold cliCells
          go_wp2_with fail
          go_roundw
          case rel =>
            rw [put7_eq]
            exact ⟨k + 1, A4, c4, by omega, by omega, by go_num, (putFrom_blk Ed [.int .i64 P, .int .i64 ((k : Int) + 1), .slice A4 0 c4, .int .i64 (-1), .int .i64 (-1), .int .i64 (-1), .int .i64 (-1)] rfl).alloc _, (putFrom_below hgw [.int .i64 P, .int .i64 ((k : Int) + 1), .slice A4 0 c4, .int .i64 (-1), .int .i64 (-1), .int .i64 (-1), .int .i64 (-1)] 0 _ bel10).alloc (by rw [putFrom_size]; exact bel10.size) _⟩
          case measure => simp [intOf]; omega
    · have HD := Lib.hid hcond
      have hcc : ¬ (k : Int) < (n : Int) ∨ ((k : Int) < (n : Int) ∧ ¬ (k : Int) < 60) := by omega
      have hmin := Lib.hid (show (k : Int) = min (n : Int) 60 by omega)
      clear hcond
      have CD := Lib.hid (fun W => cdone_none P k A0 0 cc 0 [] (fun _ => -1) 0 W (clok_at P k (by omega) (by omega) (by omega) (by omega)) rfl (by omega) Reads.none_ (Nat.zero_le _) (fun t ht => absurd ht (by omega)))
      clear hIn hr hwf
      obtain ⟨x0, x1, x2, x3, x4, x5, x6⟩ := cliBlk E
      rcases hcc with hI1 | ⟨hI1, hI2⟩
      all_goals
        go_wp2_with fail
        refine (CD.out _).mono ?_
        rintro e w3 ⟨rfl, b3⟩
        have E3 := E.below b3 E.lt
        have bel3 := bel.trans (b3.mono bel.size)
        clear x0 x1 x2 x3 x4 x5 x6 E bel b3 CD
        obtain ⟨x0, x1, x2, x3, x4, x5, x6⟩ := cliBlk E3
        have xz := E3.lt
        unfold cliCells
        go_wp2_with fail
        go_ret
        exact ⟨ret_true (by have := hmin.out; simp; omega), bel3.alloc bel3.size _⟩

end Go.Proofs.Ytcbpgmpbjcknbaa
