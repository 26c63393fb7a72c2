/- FlipOnce: the walk. -/
import Derived.Test.YtogeeaplepiijaaDoorDir4
import Derived.Test.YtogeeaplepiijaaDoorPk
import Derived.Test.YtogeeaplepiijaaDoorView
namespace Go.Proofs.YtogeeaplepiijaaDoor
open Go.RowKit

theorem newOk : ∀ k, k < 4 → PlaceOk ((fun _ : Nat => (-1 : Int)) k) ((fun _ : Nat => (0 : Int)) k) := fun _ _ => .inl ⟨rfl, rfl⟩
theorem upd_at (f : Nat → Int) (k : Nat) (v : Int) : upd f k v k = v := if_pos rfl
theorem upd_ne (f : Nat → Int) {k j : Nat} (v : Int) (h : j ≠ k) : upd f k v j = f j := if_neg h

set_option maxRecDepth 100000 in
set_option maxHeartbeats 1000000 in
theorem flipOnce_walk (a0 a1 a2 a3 : Int) (w : World) (hn0 : w.cell? ⟨0, 0, none⟩ = some (.int .i64 (-1))) (hn1 : w.cell? ⟨0, 1, none⟩ = some (.int .i64 0)) (h0 : Is64 a0) (h1 : Is64 a1) (h2 : Is64 a2) (h3 : Is64 a3) :
    Calls Tryd.prog 3 #[.int .i64 a0, .int .i64 a1, .int .i64 a2, .int .i64 a3] w fun e w' => e = .returned (.bool true) ∧ Below w.heap.size w w' := by
  have hw : Nowhere w := ⟨hn0, hn1⟩
  have hg : Tryd.prog.eqGuardType Tryd.prog.depth 24 = false := by kernel_rfl
  have hpq := place_eql
  obtain ⟨h01, h02⟩ := h0
  obtain ⟨h11, h12⟩ := h1
  obtain ⟨h21, h22⟩ := h2
  obtain ⟨h31, h32⟩ := h3
  have p1 := pick_lo a0 4 (by omega)
  have p2 := pick_hi a0 4 (by omega)
  have p3 := pick_lo a1 5 (by omega)
  have p4 := pick_hi a1 5 (by omega)
  have p5 := pick_lo a2 4 (by omega)
  have p6 := pick_hi a2 4 (by omega)
  have p7 := pick_lo a3 4 (by omega)
  have p8 := pick_hi a3 4 (by omega)
  go_enter Tryd.func3, Tryd.ntmps3
  go_wp2_with fail
  refine (picked_any _ _ _ (by omega) (by omega) (by omega) (by omega)).mono ?_
  rintro e w1 ⟨rfl, rfl⟩
  obtain ⟨k, hk⟩ : ∃ k : Nat, pick a0 4 = k := ⟨(pick a0 4).toNat, by omega⟩
  rw [hk] at p1 p2 ⊢
  clear hk
  go_wp2_with fail
  refine (picked_any _ _ _ (by omega) (by omega) (by omega) (by omega)).mono ?_
  rintro e w1 ⟨rfl, rfl⟩
  generalize pick a1 5 = x at *
  go_wp2_with fail
  refine (picked_any _ _ _ (by omega) (by omega) (by omega) (by omega)).mono ?_
  rintro e w1 ⟨rfl, rfl⟩
  generalize pick a2 4 = s at *
  have i1 : IntKind.i64.wrap (x + 1) = x + 1 := IntWalk.i64_in _ (by omega)
  have i2 : IntKind.i64.wrap (x + 1 + s) = x + 1 + s := IntWalk.i64_in _ (by omega)
  obtain ⟨y, hy⟩ : ∃ y, (x + 1 + s).tmod 5 = y := ⟨_, rfl⟩
  have hy' : (x + 1 + s) % 5 = y := by rw [← hy, Int.tmod_eq_emod_of_nonneg (by omega)]
  go_wp2_with fail
  refine (picked_any _ _ _ (by omega) (by omega) (by omega) (by omega)).mono ?_
  rintro e w1 ⟨rfl, rfl⟩
  generalize pick a3 4 = u at *
  have i3 : IntKind.i64.wrap (x + 1 + u) = x + 1 + u := IntWalk.i64_in _ (by omega)
  obtain ⟨z, hz⟩ : ∃ z, (x + 1 + u).tmod 5 = z := ⟨_, rfl⟩
  have hz' : z = (x + 1 + u) % 5 := by rw [← hz, Int.tmod_eq_emod_of_nonneg (by omega)]
  have y1 : 0 ≤ y := by omega
  have y2 : y ≤ 4 := by omega
  have y3 : ¬ x = y := by omega
  have z1 : 0 ≤ z := by omega
  have z2 : z ≤ 4 := by omega
  have hk4 : k < 4 := by omega
  have C1 := Lib.hid (fun W h => dmake_yes _ _ k k x W h newOk hk4 rfl rfl p3 (by omega))
  have ok1 := placeOk_upd newOk k x 1 (.inr ⟨p3, by omega, by omega, by omega⟩)
  have v1 := upd_at (fun _ => (-1 : Int)) k x
  have v2 := upd_at (fun _ => (0 : Int)) k 1
  generalize upd (fun _ => (-1 : Int)) k x = N1 at *
  generalize upd (fun _ => (0 : Int)) k 1 = E1 at *
  have C2 := Lib.hid (fun W h => dflip_yes N1 E1 k k 1 y W h ok1 hk4 rfl (by omega) y1 y2 v2.symm (by omega) (by omega) (by omega))
  have ok2 := placeOk_upd ok1 k y (1 + 1) (.inr ⟨y1, y2, by omega, by omega⟩)
  have v3 := upd_at N1 k y
  have v4 := upd_at E1 k (1 + 1)
  generalize upd N1 k y = N2 at *
  generalize upd E1 k (1 + 1) = E2 at *
  have C3 := Lib.hid (fun W h => dflip_epoch N2 E2 k k 1 z W h ok2 hk4 rfl (by omega) z1 z2 (by omega))
  have C4 := Lib.hid (fun W h => dwhere_ok N2 E2 k k W h ok2 hk4 rfl (by omega))
  rw [v3, v4] at C4
  have C5 := Lib.hid (fun W h => dmake_twice N2 E2 k k z W h ok2 hk4 rfl (by omega) z1 z2)
  clear ok1 ok2 v1 v2 v3 v4 hz'
  go_wp2_with fail
  refine (dnew_ok _ hw).mono ?_
  rintro e w1 ⟨rfl, b1⟩
  go_wp2_with fail
  with_reducible refine (C1.out _ (hw.below b1 hw.pos)).mono ?_
  rintro e w2 ⟨rfl, b2⟩
  have n2 := hw.below (b1.trans (b2.mono b1.size)) hw.pos
  have bel2 := b1.trans (b2.mono b1.size)
  clear b1 b2 C1
  unfold dirCells
  go_wp2_with fail
  refine (C2.out _ (n2.below ((Below.refl _ _).alloc (Nat.le_refl _) _) n2.pos)).mono ?_
  rintro e w3 ⟨rfl, b3⟩
  have n3 := (n2.below ((Below.refl _ _).alloc (Nat.le_refl _) _) n2.pos).below b3 (by simp)
  have bel3 := bel2.trans (((Below.refl _ _).alloc (Nat.le_refl _) _).trans (b3.mono (by simp)) |>.mono bel2.size)
  clear b3 n2 bel2 C2
  unfold dirCells
  go_wp2_with fail
  refine (C3.out _ (n3.below ((Below.refl _ _).alloc (Nat.le_refl _) _) n3.pos)).mono ?_
  rintro e w4 ⟨rfl, b4⟩
  have D4 := (Blk.new w3 27 (dirCells N2 E2)).below b4 (by simp)
  have n4 := (n3.below ((Below.refl _ _).alloc (Nat.le_refl _) _) n3.pos).below b4 (by simp)
  have bel4 := bel3.trans (((Below.refl _ _).alloc (Nat.le_refl _) _).trans (b4.mono (by simp)) |>.mono bel3.size)
  obtain ⟨c0, c1, c2, c3, c4, c5, c6, c7⟩ := dirBlk D4
  have z4 := D4.lt
  clear b4 n3 bel3 C3
  unfold dirCells
  go_wp2_with fail
  refine (C4.out _ (n4.below ((Below.refl _ _).alloc (Nat.le_refl _) _) n4.pos)).mono ?_
  rintro e w5 ⟨rfl, b5⟩
  have D5 := (D4.alloc (.cells (dirCells (fun _ => 0) (fun _ => 0)) 27)).below b5 (by simp; omega)
  have n5 := (n4.below ((Below.refl _ _).alloc (Nat.le_refl _) _) n4.pos).below b5 (by simp)
  have bel5 := bel4.trans (((Below.refl _ _).alloc (Nat.le_refl _) _).trans (b5.mono (by simp)) |>.mono bel4.size)
  clear b5 n4 bel4 C4 c0 c1 c2 c3 c4 c5 c6 c7 z4
  obtain ⟨c0, c1, c2, c3, c4, c5, c6, c7⟩ := dirBlk D5
  have z5 := D5.lt
  go_wp2_with fail
  refine (C5.out _ (n5.below ((Below.refl _ _).alloc (Nat.le_refl _) _) n5.pos)).mono ?_
  rintro e w6 ⟨rfl, b6⟩
  have D6 := (Blk.new w5 24 #[.int .i64 y, .int .i64 (1 + 1)]).below b6 (by simp)
  have bel6 := bel5.trans (((Below.refl _ _).alloc (Nat.le_refl _) _).trans (b6.mono (by simp)) |>.mono bel5.size)
  have d0 := D6.cell 0
  have d1 := D6.cell 1
  have z6 := D6.lt
  clear b6 n5 bel5 C5 c0 c1 c2 c3 c4 c5 c6 c7 z5
  unfold dirCells
  go_wp2
  go_ret
  exact ⟨ret_true (by simp), bel6.alloc bel6.size _⟩
end Go.Proofs.YtogeeaplepiijaaDoor
