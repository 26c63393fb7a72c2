/- DirectoryApart: the walk. -/
import Derived.Test.YtogeeaplepiijaaDoorLawFlipOnce
import Derived.StillTailTactics
import Derived.BigQuiet
import Derived.Deep.RegionHeld3
import Derived.Deep.DeepCutAuto
import Derived.Test.YtogeeaplepiijaaDoorPut
import Derived.Deep.QuietTactic
namespace Go.Proofs.YtogeeaplepiijaaDoor
open Go.RowKit

set_option maxRecDepth 100000 in
set_option maxHeartbeats 1000000 in
theorem directoryApart_walk (a0 a1 a2 : Int) (w : World) (hn0 : w.cell? ⟨0, 0, none⟩ = some (.int .i64 (-1))) (hn1 : w.cell? ⟨0, 1, none⟩ = some (.int .i64 0)) (h0 : Is64 a0) (h1 : Is64 a1) (h2 : Is64 a2) :
    Calls Tryd.prog 5 #[.int .i64 a0, .int .i64 a1, .int .i64 a2] w fun e w' => e = .returned (.bool true) ∧ Below w.heap.size w w' := by
  have hw : Nowhere w := ⟨hn0, hn1⟩
  have hg : Tryd.prog.eqGuardType Tryd.prog.depth 24 = false := by kernel_rfl
  have hpq := place_eql
  obtain ⟨h01, h02⟩ := h0
  obtain ⟨h11, h12⟩ := h1
  obtain ⟨h21, h22⟩ := h2
  have p1 := pick_lo a0 5 (by omega)
  have p2 := pick_hi a0 5 (by omega)
  have p3 := pick_lo a1 5 (by omega)
  have p4 := pick_hi a1 5 (by omega)
  have p5 := pick_lo a2 4 (by omega)
  have p6 := pick_hi a2 4 (by omega)
  have P0' := fun W => Lib.hid (picked_still a0 5 _ W rfl (by omega) (by omega) (by omega) (by omega))
  have P1' := fun W => Lib.hid (picked_still a1 5 _ W rfl (by omega) (by omega) (by omega) (by omega))
  have P0 := fun W => Lib.hid (picked_any a0 5 W (by omega) (by omega) (by omega) (by omega))
  have P1 := fun W => Lib.hid (picked_any a1 5 W (by omega) (by omega) (by omega) (by omega))
  have P2 := fun W => Lib.hid (picked_any a2 4 W (by omega) (by omega) (by omega) (by omega))
  generalize pick a0 5 = x at *
  generalize pick a1 5 = y at *
  generalize pick a2 4 = s at *
  have i1 : IntKind.i64.wrap (y + 1) = y + 1 := IntWalk.i64_in _ (by omega)
  have i2 : IntKind.i64.wrap (y + 1 + s) = y + 1 + s := IntWalk.i64_in _ (by omega)
  obtain ⟨t, ht⟩ : ∃ t, (y + 1 + s).tmod 5 = t := ⟨_, rfl⟩
  have ht' : (y + 1 + s) % 5 = t := by rw [← ht, Int.tmod_eq_emod_of_nonneg (by omega)]
  have t1 : 0 ≤ t := by omega
  have t2 : t ≤ 4 := by omega
  have t3 : ¬ y = t := by omega
  have C1 := Lib.hid (fun W h => dmake_yes _ _ 0 0 x W h newOk (by omega) rfl rfl p1 (by omega))
  have ok1 := placeOk_upd newOk 0 x 1 (.inr ⟨p1, by omega, by omega, by omega⟩)
  have v1 := upd_at (fun _ => (-1 : Int)) 0 x
  have v2 := upd_at (fun _ => (0 : Int)) 0 1
  have u1 := upd_ne (fun _ => (-1 : Int)) (k := 0) (j := 3) x (by omega)
  have u2 := upd_ne (fun _ => (-1 : Int)) (k := 0) (j := 1) x (by omega)
  generalize upd (fun _ => (-1 : Int)) 0 x = N1 at *
  generalize upd (fun _ => (0 : Int)) 0 1 = E1 at *
  have C2 := Lib.hid (fun W h => dmake_yes N1 E1 3 3 y W h ok1 (by omega) rfl u1 p3 (by omega))
  have ok2 := placeOk_upd ok1 3 y 1 (.inr ⟨p3, by omega, by omega, by omega⟩)
  have v3 := upd_at N1 3 y
  have v4 := upd_at E1 3 1
  have v5 := upd_ne N1 (k := 3) (j := 0) y (by omega)
  have v6 := upd_ne E1 (k := 3) (j := 0) 1 (by omega)
  have v7 := upd_ne N1 (k := 3) (j := 1) y (by omega)
  generalize upd N1 3 y = N2 at *
  generalize upd E1 3 1 = E2 at *
  have C3 := Lib.hid (fun W h => dflip_yes N2 E2 3 3 1 t W h ok2 (by omega) rfl (by omega) t1 t2 v4.symm (by omega) (by omega) (by omega))
  have ok3 := placeOk_upd ok2 3 t (1 + 1) (.inr ⟨t1, t2, by omega, by omega⟩)
  have q1 := upd_at N2 3 t
  have q2 := upd_at E2 3 (1 + 1)
  have q3 := upd_ne N2 (k := 3) (j := 0) t (by omega)
  have q4 := upd_ne E2 (k := 3) (j := 0) (1 + 1) (by omega)
  have q5 := upd_ne N2 (k := 3) (j := 1) t (by omega)
  generalize upd N2 3 t = N3 at *
  generalize upd E2 3 (1 + 1) = E3 at *
  have C4 := Lib.hid (fun W h => dwhere_ok N3 E3 0 0 W h ok3 (by omega) rfl (by omega))
  rw [q3, q4, v5, v6, v1, v2] at C4
  have C5 := Lib.hid (fun W h => dwhere_ok N3 E3 3 3 W h ok3 (by omega) rfl (by omega))
  rw [q1, q2] at C5
  have C6 := Lib.hid (fun W h => dwhere_none N3 E3 1 1 W h ok3 (by omega) rfl (by omega))
  clear ok1 ok2 ok3 v1 v2 u1 u2 v3 v4 v5 v6 v7 q1 q2 q3 q4 q5
  go_enter Tryd.func5, Tryd.ntmps5
  go_wp2_with (first | (go_at_call 6; (with_reducible refine (P0 _).out.mono ?_); rintro e w1 ⟨rfl, rfl⟩) | (go_at_call 8; (with_reducible refine (dnew_ok _ hw).mono ?_); rintro e w1 ⟨rfl, b1⟩))
  with_reducible refine (C1.out _ (hw.below b1 hw.pos)).mono ?_
  rintro e w2 ⟨rfl, b2⟩
  have n2 := hw.below (b1.trans (b2.mono b1.size)) hw.pos
  have bel2 := b1.trans (b2.mono b1.size)
  clear b1 b2 C1
  unfold dirCells
  go_wp2_with (first | (go_at_call 6; (with_reducible refine (P0 _).out.mono ?_); rintro e w1 ⟨rfl, rfl⟩) | (go_at_call 6; (with_reducible refine (P1 _).out.mono ?_); rintro e w1 ⟨rfl, rfl⟩) | (go_at_call 6; (with_reducible refine (P2 _).out.mono ?_); rintro e w1 ⟨rfl, rfl⟩))
  have bel2a := bel2.alloc bel2.size (.cells (dirCells N1 E1) 27)
  have D2a := Blk.new w2 27 (dirCells N1 E1)
  have hg2 : w.heap.size ≤ w2.heap.size := bel2.size
  unfold dirCells at bel2a D2a
  obtain ⟨gd, hgd⟩ : ∃ gd, gd = w2.heap.size := ⟨_, rfl⟩
  rw [← hgd] at D2a hg2 ⊢
  clear hgd
  generalize w2.alloc (.cells #[.int .i64 (N1 0), .int .i64 (E1 0), .int .i64 (N1 1), .int .i64 (E1 1), .int .i64 (N1 2), .int .i64 (E1 2), .int .i64 (N1 3), .int .i64 (E1 3)] 27) = w3 at *
  clear n2 bel2
  obtain ⟨c0, c1, c2, c3, c4, c5, c6, c7⟩ := dirBlk (n := N1) (e := E1) D2a
  have f3 := D2a.frozen
  have z3 := D2a.lt
  have hgd0 : 0 < gd := by have := hw.pos; omega
  have hgd1 : ¬ 0 = gd := by omega
  have n3 := hw.below bel2a hw.pos
  go_upto_region 2 with fail
  go_cut [9] (fun s9 wx => s9 = .int .i64 0 ∧ Blk wx gd 27 (dirCells N2 E2) ∧ Below w.heap.size w wx)
  case first =>
    go_region_with (first | (go_at_call 6; refine (P1 _).out.mono ?_; rintro e w1 ⟨rfl, rfl⟩) | (go_at_call 7; refine (C2.out w3.drew ⟨n3.c0, n3.c1⟩).mono ?_; rintro e w4 ⟨rfl, b4⟩; have D4 := D2a.drew.below b4 z3; have bel4 := bel2a.drew.trans (b4.mono bel2a.size); have z4 := D4.lt; have f4 := D4.frozen; obtain ⟨x0, x1, x2, x3, x4, x5, x6, x7⟩ := dirBlk (n := N1) (e := E1) D4; unfold dirCells))
    all_goals
      go_wp2_with fail
      go_meet
      rw [put8_eq]
      exact ⟨rfl, putFrom_blk D4 _ rfl, putFrom_below hg2 _ _ _ bel4⟩
  case rest =>
    obtain ⟨rfl, D5, bel5⟩ := hcut
    clear D2a bel2a c0 c1 c2 c3 c4 c5 c6 c7 f3 z3 n3 C2
    have n5 := hw.below bel5 hw.pos
    obtain ⟨c0, c1, c2, c3, c4, c5, c6, c7⟩ := dirBlk D5
    have z5 := D5.lt
    go_wp2_with (first | (go_at_call 6; (with_reducible refine (P0 _).out.mono ?_); rintro e w1 ⟨rfl, rfl⟩) | (go_at_call 6; (with_reducible refine (P1 _).out.mono ?_); rintro e w1 ⟨rfl, rfl⟩) | (go_at_call 6; (with_reducible refine (P2 _).out.mono ?_); rintro e w1 ⟨rfl, rfl⟩))
    refine (C3.out _ n5).mono ?_
    rintro e w6 ⟨rfl, b6⟩
    have bel6 := bel5.trans (b6.mono bel5.size)
    have n6 := hw.below bel6 hw.pos
    clear b6 C3 D5 n5 c0 c1 c2 c3 c4 c5 c6 c7 z5 hgd0 hgd1 hg2
    unfold dirCells
    go_wp2_with fail
    refine (C4.out _ (n6.below ((Below.refl _ _).alloc (Nat.le_refl _) _) n6.pos)).mono ?_
    rintro e w7 ⟨rfl, b7⟩
    have D7 := (Blk.new w6 27 (dirCells N3 E3)).below b7 (by simp)
    have bel7 := bel6.trans (((Below.refl _ _).alloc (Nat.le_refl _) _).trans (b7.mono (by simp)) |>.mono bel6.size)
    have n7 := hw.below bel7 hw.pos
    clear b7 C4 n6 bel6
    obtain ⟨c0, c1, c2, c3, c4, c5, c6, c7⟩ := dirBlk D7
    have z7 := D7.lt
    go_wp2_with fail
    refine (C5.out _ (n7.below ((Below.refl _ _).alloc (Nat.le_refl _) _) n7.pos)).mono ?_
    rintro e w8 ⟨rfl, b8⟩
    have P8 := (Blk.new w7 24 #[.int .i64 x, .int .i64 1]).below b8 (by simp)
    have D8 := (D7.alloc (.cells #[.int .i64 x, .int .i64 1] 24)).below b8 (by simp; omega)
    have bel8 := bel7.trans (((Below.refl _ _).alloc (Nat.le_refl _) _).trans (b8.mono (by simp)) |>.mono bel7.size)
    have n8 := hw.below bel8 hw.pos
    clear b8 C5 n7 bel7 c0 c1 c2 c3 c4 c5 c6 c7 z7 D7
    obtain ⟨c0, c1, c2, c3, c4, c5, c6, c7⟩ := dirBlk D8
    have z8 := D8.lt
    have z8' := P8.lt
    go_wp2_with fail
    refine (C6.out _ (n8.below ((Below.refl _ _).alloc (Nat.le_refl _) _) n8.pos)).mono ?_
    rintro e w9 ⟨rfl, b9⟩
    have P9 := (P8.alloc (.cells #[.int .i64 t, .int .i64 (1 + 1)] 24)).below b9 (by simp; omega)
    have Q9 := (Blk.new w8 24 #[.int .i64 t, .int .i64 (1 + 1)]).below b9 (by simp)
    have bel9 := bel8.trans (((Below.refl _ _).alloc (Nat.le_refl _) _).trans (b9.mono (by simp)) |>.mono bel8.size)
    clear b9 C6 n8 bel8 c0 c1 c2 c3 c4 c5 c6 c7 z8 D8 P8 z8'
    have d0 := P9.cell 0
    have d1 := P9.cell 1
    have d2 := Q9.cell 0
    have d3 := Q9.cell 1
    have z9 := P9.lt
    have z9' := Q9.lt
    go_wp2
    go_quiet ((go_at_call 6; exact Calls.quiet_of_same ((P0' _).out)))
    go_wp2
    go_ret
    exact ⟨ret_true (by simp), below_drewN (bel9.alloc bel9.size _) _⟩
end Go.Proofs.YtogeeaplepiijaaDoor
