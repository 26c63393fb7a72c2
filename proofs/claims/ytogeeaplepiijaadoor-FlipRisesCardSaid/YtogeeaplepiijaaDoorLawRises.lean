/- FlipRises: the walk. -/
import Derived.Test.YtogeeaplepiijaaDoorLawFlipOnce
import Derived.Test.YtogeeaplepiijaaDoorPut
namespace Go.Proofs.YtogeeaplepiijaaDoor
open Go.RowKit

/-- a directory stored over another one -/
def putDir (w : World) (g : Nat) (n e : Nat → Int) : World := putFrom w g 0 [.int .i64 (n 0), .int .i64 (e 0), .int .i64 (n 1), .int .i64 (e 1), .int .i64 (n 2), .int .i64 (e 2), .int .i64 (n 3), .int .i64 (e 3)]
theorem putDir_eq (w : World) (g : Nat) (n e : Nat → Int) :
    (((((((w.setCell ⟨g, 0, none⟩ (.int .i64 (n 0))).setCell ⟨g, 1, none⟩ (.int .i64 (e 0))).setCell ⟨g, 2, none⟩ (.int .i64 (n 1))).setCell ⟨g, 3, none⟩ (.int .i64 (e 1))).setCell ⟨g, 4, none⟩ (.int .i64 (n 2))).setCell ⟨g, 5, none⟩ (.int .i64 (e 2))).setCell ⟨g, 6, none⟩ (.int .i64 (n 3))).setCell ⟨g, 7, none⟩ (.int .i64 (e 3)) = putDir w g n e := rfl
theorem putDir_blk {w : World} {g : Nat} {t : TypeId} {n e : Nat → Int} (h : Blk w g t (dirCells n e)) (n' e' : Nat → Int) : Blk (putDir w g n' e') g t (dirCells n' e') := putFrom_blk h _ rfl
theorem putDir_below {B : Nat} {a w : World} (h : Below B a w) {g : Nat} (hg : B ≤ g) (n e : Nat → Int) : Below B a (putDir w g n e) := putFrom_below hg _ _ _ h

theorem other_mod (k : Nat) (hk : k < 4) : ((k : Int) + 1).tmod 4 = (((k + 1) % 4 : Nat) : Int) ∧ ((k : Int) + 1) % 4 = (((k + 1) % 4 : Nat) : Int) := by
  rcases (show k = 0 ∨ k = 1 ∨ k = 2 ∨ k = 3 by omega) with rfl | rfl | rfl | rfl <;> decide

set_option maxRecDepth 100000 in
set_option maxHeartbeats 1000000 in
theorem flipRises_walk (A : Option Addr) (n c : Nat) (zs : List Int) (a1 : Int) (w : World) (hn0 : w.cell? ⟨0, 0, none⟩ = some (.int .i64 (-1))) (hn1 : w.cell? ⟨0, 1, none⟩ = some (.int .i64 0)) (h0 : IsNums .i64 8 w A n c zs) (h1 : Is64 a1) :
    Calls Tryd.prog 4 #[.slice A n c, .int .i64 a1] w fun e w' => e = .returned (.bool true) ∧ Below w.heap.size w w' := by
  have hw : Nowhere w := ⟨hn0, hn1⟩
  have hg : Tryd.prog.eqGuardType Tryd.prog.depth 24 = false := by kernel_rfl
  have hpq := place_eql
  obtain ⟨hl, hnc, hcb, hr, hwf⟩ := h0
  obtain ⟨h11, h12⟩ := h1
  have p1 := pick_lo a1 4 (by omega)
  have p2 := pick_hi a1 4 (by omega)
  have P1 := fun W => Lib.hid (picked_any a1 4 W (by omega) (by omega) (by omega) (by omega))
  obtain ⟨k, hk⟩ : ∃ k : Nat, pick a1 4 = k := ⟨(pick a1 4).toNat, by omega⟩
  rw [hk] at p1 p2 P1
  clear hk
  have hk4 : k < 4 := by omega
  obtain ⟨o1, o2⟩ := other_mod k hk4
  obtain ⟨o, ho⟩ : ∃ o, (k + 1) % 4 = o := ⟨_, rfl⟩
  rw [ho] at o1 o2
  have hok : o ≠ k := by omega
  have ho4 : o < 4 := by omega
  clear ho
  have i1 : IntKind.i64.wrap ((k : Int) + 1) = k + 1 := IntWalk.i64_in _ (by omega)
  have C1 := Lib.hid (fun W h => dmake_yes _ _ k k 0 W h newOk hk4 rfl rfl (by omega) (by omega))
  have ok1 := placeOk_upd newOk k 0 1 (.inr ⟨by omega, by omega, by omega, by omega⟩)
  have v1 := upd_at (fun _ => (-1 : Int)) k 0
  have v2 := upd_at (fun _ => (0 : Int)) k 1
  have v3 := upd_ne (fun _ => (-1 : Int)) (k := k) (j := o) 0 hok
  generalize upd (fun _ => (-1 : Int)) k 0 = N1 at *
  generalize upd (fun _ => (0 : Int)) k 1 = E1 at *
  have HI := Lib.hid (And.intro ok1 (And.intro v1 (And.intro v2 v3)))
  clear ok1 v1 v2 v3
  go_enter Tryd.func4, Tryd.ntmps4
  go_wp2_with (first | (go_at_call 6; (with_reducible refine (P1 _).out.mono ?_); rintro e w1 ⟨rfl, rfl⟩) | (go_at_call 8; (with_reducible refine (dnew_ok _ hw).mono ?_); rintro e w1 ⟨rfl, b1⟩))
  with_reducible refine (C1.out _ (hw.below b1 hw.pos)).mono ?_
  rintro e w2 ⟨rfl, b2⟩
  have bel2 := b1.trans (b2.mono b1.size)
  have hg2 : w.heap.size ≤ w2.heap.size := bel2.size
  obtain ⟨g, hgg⟩ : ∃ g, g = w2.heap.size := ⟨_, rfl⟩
  clear b1 b2 C1
  unfold dirCells
  go_wp2
  have D2 := Blk.new w2 27 (dirCells N1 E1)
  have bel3 := bel2.alloc bel2.size (.cells (dirCells N1 E1) 27)
  unfold dirCells at D2 bel3
  rw [← hgg] at D2 hg2 ⊢
  generalize w2.alloc (.cells #[.int .i64 (N1 0), .int .i64 (E1 0), .int .i64 (N1 1), .int .i64 (E1 1), .int .i64 (N1 2), .int .i64 (E1 2), .int .i64 (N1 3), .int .i64 (E1 3)] 27) = w3 at *
  clear bel2 hgg
  go_loopw [9, 10, 11] (fun s9 s10 s11 wr => ∃ i : Nat, i ≤ n ∧ i ≤ 20 ∧ s11 = .int .i64 i ∧ ∃ (a ep : Int) (N E : Nat → Int), s10 = .int .i64 a ∧ s9 = .int .i64 ep ∧ 0 ≤ a ∧ a ≤ 4 ∧ 1 ≤ ep ∧ ep ≤ i + 1 ∧ (∀ j, j < 4 → PlaceOk (N j) (E j)) ∧ N k = a ∧ E k = ep ∧ N o = -1 ∧
      Blk wr g 27 (dirCells N E) ∧ Below w.heap.size w wr) (fun _ _ s11 _ => 20 - (intOf s11).toNat)
  case atStart => exact ⟨0, by omega, by omega, rfl, 0, 1, N1, E1, rfl, rfl, by omega, by omega, by omega, by omega, HI.out.1, HI.out.2.1, HI.out.2.2.1, HI.out.2.2.2, D2, bel3⟩
  case round =>
    obtain ⟨i, hi, hi20, rfl, a, ep, N, E, rfl, rfl, ha0, ha4, he1, he2, hok', hN, hE, hNo, D, bel⟩ := hrel
    clear D2 bel3 HI
    have nw := hw.below bel hw.pos
    obtain ⟨c0, c1, c2, c3, c4, c5, c6, c7⟩ := dirBlk D
    have zD := D.lt
    have fD := D.frozen
    by_cases hin : i < n
    · by_cases hi2 : i < 20
      · obtain ⟨b, off, rfl, hbb, hcell⟩ := hr.plain (by omega) (by omega)
        have g1 : wr.cell? ⟨b, off + i, none⟩ = some (.int .i64 (zs.getD i 0)) := (bel.cell (p := ⟨b, off + i, none⟩) hbb).trans (hcell i _ (by
          rw [List.getElem?_map, List.getElem?_eq_getElem (show i < zs.length by omega)]; simp [List.getD, List.getElem?_eq_getElem (show i < zs.length by omega)]))
        have hz64 : Is64 (zs.getD i 0) := is64_of_wf (hwf _ (by rw [List.getD, List.getElem?_eq_getElem (show i < zs.length by omega)]; simp))
        obtain ⟨l1, l2⟩ := hz64
        have q1 := pick_lo (zs.getD i 0) 5 (by omega)
        have q2 := pick_hi (zs.getD i 0) 5 (by omega)
        have P2 := fun W => Lib.hid (picked_any (zs.getD i 0) 5 W (by omega) (by omega) (by omega) (by omega))
        generalize zs.getD i 0 = z at *
        generalize pick z 5 = t at *
        clear hcell hr hwf
        by_cases hta : t = a
        · have C2 := Lib.hid (fun W h => dflip_same N E k k ep t W h hok' hk4 rfl (by omega) q1 (by omega) hE.symm (by omega))
          have HI := Lib.hid (And.intro hok' (And.intro hN (And.intro hE hNo)))
          clear hok' hN hE hNo
          subst hta
          go_wp2_with (first | (go_at_call 6; (with_reducible refine (P2 _).out.mono ?_); rintro e w1 ⟨rfl, rfl⟩))
          refine (C2.out _ nw).mono ?_
          rintro e w4 ⟨rfl, b4⟩
          have D4 := D.below b4 D.lt
          have bel4 := bel.trans (b4.mono bel.size)
          clear C2 b4 D bel
          unfold dirCells
          go_wp2
          go_roundw
          case rel => exact ⟨i + 1, by omega, by omega, by go_num, t, ep, N, E, rfl, rfl, by omega, by omega, by omega, by omega, HI.out.1, HI.out.2.1, HI.out.2.2.1, HI.out.2.2.2, D4.alloc _, bel4.alloc bel4.size _⟩
          case measure => simp [intOf]; omega
        · have C2 := Lib.hid (fun W h => dflip_yes N E k k ep t W h hok' hk4 rfl (by omega) q1 (by omega) hE.symm (by omega) (by omega) (by omega))
          have ok2 := placeOk_upd hok' k t (ep + 1) (.inr ⟨q1, by omega, by omega, by omega⟩)
          have v1 := upd_at N k t
          have v2 := upd_at E k (ep + 1)
          have v3 := upd_ne N (k := k) (j := o) t hok
          rw [hNo] at v3
          generalize upd N k t = N2 at *
          generalize upd E k (ep + 1) = E2 at *
          have HI := Lib.hid (And.intro ok2 (And.intro v1 (And.intro v2 v3)))
          clear hok' hN hE hNo ok2 v1 v2 v3
          have hta' : (t == a) = false := beq_eq_false_iff_ne.2 hta
          go_wp2_with (first | (go_at_call 6; (with_reducible refine (P2 _).out.mono ?_); rintro e w1 ⟨rfl, rfl⟩))
          refine (C2.out _ nw).mono ?_
          rintro e w4 ⟨rfl, b4⟩
          have D4 := D.below b4 D.lt
          have bel4 := bel.trans (b4.mono bel.size)
          clear C2 b4 D bel c0 c1 c2 c3 c4 c5 c6 c7 fD
          have fD := D4.frozen
          have zD4 := D4.lt
          have hne : ¬ w4.heap.size = g := by omega
          have hne2 : ¬ g = w4.heap.size := by omega
          obtain ⟨c0, c1, c2, c3, c4, c5, c6, c7⟩ := dirBlk D4
          unfold dirCells
          go_wp2
          rw [putDir_eq]
          have D5 := putDir_blk D4 N2 E2
          have bel5 := putDir_below bel4 hg2 N2 E2
          generalize putDir w4 g N2 E2 = w5 at *
          go_roundw
          case rel => exact ⟨i + 1, by omega, by omega, by go_num, t, ep + 1, N2, E2, rfl, rfl, by omega, by omega, by omega, by omega, HI.out.1, HI.out.2.1, HI.out.2.2.1, HI.out.2.2.2, D5.alloc _, bel5.alloc bel5.size _⟩
          case measure => simp [intOf]; omega
      · obtain rfl : i = 20 := by omega
        have hlt : (20 : Int) < n := by omega
        have C3 := Lib.hid (fun W h => dwhere_ok N E k k W h hok' hk4 rfl (by omega))
        rw [hN, hE] at C3
        have C4 := Lib.hid (fun W h => dwhere_none N E o o W h hok' ho4 rfl (by omega))
        have C5 := Lib.hid (fun W h => dcheck_ok N E W h hok')
        clear hok' hN hE hNo hr hwf
        go_wp2_with fail
        refine (C3.out _ nw).mono ?_
        rintro e w7 ⟨rfl, b7⟩
        have D7 := D.below b7 D.lt
        have bel7 := bel.trans (b7.mono bel.size)
        have n7 := hw.below bel7 hw.pos
        clear b7 C3 nw D bel c0 c1 c2 c3 c4 c5 c6 c7 fD zD
        obtain ⟨c0, c1, c2, c3, c4, c5, c6, c7⟩ := dirBlk D7
        have z7 := D7.lt
        go_wp2_with fail
        refine (C4.out _ (n7.below ((Below.refl _ _).alloc (Nat.le_refl _) _) n7.pos)).mono ?_
        rintro e w8 ⟨rfl, b8⟩
        have P8 := (Blk.new w7 24 #[.int .i64 a, .int .i64 ep]).below b8 (by simp)
        have D8 := (D7.alloc (.cells #[.int .i64 a, .int .i64 ep] 24)).below b8 (by simp; omega)
        have bel8 := bel7.trans (((Below.refl _ _).alloc (Nat.le_refl _) _).trans (b8.mono (by simp)) |>.mono bel7.size)
        have n8 := hw.below bel8 hw.pos
        clear b8 C4 n7 bel7 c0 c1 c2 c3 c4 c5 c6 c7 z7 D7
        obtain ⟨c0, c1, c2, c3, c4, c5, c6, c7⟩ := dirBlk D8
        have d0 := P8.cell 0
        have d1 := P8.cell 1
        have z8 := D8.lt
        have z8' := P8.lt
        go_wp2_with fail
        refine (C5.out _ (n8.below ((Below.refl _ _).alloc (Nat.le_refl _) _) n8.pos)).mono ?_
        rintro e w9 ⟨rfl, b9⟩
        have bel9 := bel8.trans (((Below.refl _ _).alloc (Nat.le_refl _) _).trans (b9.mono (by simp)) |>.mono bel8.size)
        go_wp2
        go_ret
        exact ⟨ret_true (by simp), bel9⟩
    · obtain rfl : i = n := by omega
      have C3 := Lib.hid (fun W h => dwhere_ok N E k k W h hok' hk4 rfl (by omega))
      rw [hN, hE] at C3
      have C4 := Lib.hid (fun W h => dwhere_none N E o o W h hok' ho4 rfl (by omega))
      have C5 := Lib.hid (fun W h => dcheck_ok N E W h hok')
      clear hok' hN hE hNo hr hwf
      go_wp2_with fail
      refine (C3.out _ nw).mono ?_
      rintro e w7 ⟨rfl, b7⟩
      have D7 := D.below b7 D.lt
      have bel7 := bel.trans (b7.mono bel.size)
      have n7 := hw.below bel7 hw.pos
      clear b7 C3 nw D bel c0 c1 c2 c3 c4 c5 c6 c7 fD zD
      obtain ⟨c0, c1, c2, c3, c4, c5, c6, c7⟩ := dirBlk D7
      have z7 := D7.lt
      go_wp2_with fail
      refine (C4.out _ (n7.below ((Below.refl _ _).alloc (Nat.le_refl _) _) n7.pos)).mono ?_
      rintro e w8 ⟨rfl, b8⟩
      have P8 := (Blk.new w7 24 #[.int .i64 a, .int .i64 ep]).below b8 (by simp)
      have D8 := (D7.alloc (.cells #[.int .i64 a, .int .i64 ep] 24)).below b8 (by simp; omega)
      have bel8 := bel7.trans (((Below.refl _ _).alloc (Nat.le_refl _) _).trans (b8.mono (by simp)) |>.mono bel7.size)
      have n8 := hw.below bel8 hw.pos
      clear b8 C4 n7 bel7 c0 c1 c2 c3 c4 c5 c6 c7 z7 D7
      obtain ⟨c0, c1, c2, c3, c4, c5, c6, c7⟩ := dirBlk D8
      have d0 := P8.cell 0
      have d1 := P8.cell 1
      have z8 := D8.lt
      have z8' := P8.lt
      go_wp2_with fail
      refine (C5.out _ (n8.below ((Below.refl _ _).alloc (Nat.le_refl _) _) n8.pos)).mono ?_
      rintro e w9 ⟨rfl, b9⟩
      have bel9 := bel8.trans (((Below.refl _ _).alloc (Nat.le_refl _) _).trans (b9.mono (by simp)) |>.mono bel8.size)
      go_wp2
      go_ret
      exact ⟨ret_true (by simp), bel9⟩
end Go.Proofs.YtogeeaplepiijaaDoor
