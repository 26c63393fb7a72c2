/- PlanCalm: the walk. -/
import Derived.Test.YtcbpgmpbjcknbaaPlanLaw
namespace Go.Proofs.Ytcbpgmpbjcknbaa
open Go.RowKit

theorem one_cells (a k : Int) : (#[.int .i64 2, .int .i64 a, .int .i64 k] : Array Value).toList = ldCells (fun _ => 2) (fun _ => a) (fun _ => k) 1 := rfl
theorem one_ok (a k : Int) (N : Nat) (h1 : 1 ≤ N) (h5 : N ≤ 5) (a0 : 0 ≤ a) (a1 : a < N) (k0 : 0 ≤ k) (k1 : k ≤ 1000) : LdOk (fun _ => 2) (fun _ => a) (fun _ => k) 1 N :=
  ⟨by omega, h1, h5, fun i hi => by obtain rfl : i = 0 := by omega
                                    simp [lastQ], fun _ _ => ⟨a0, a1⟩, fun _ _ => ⟨k0, k1⟩⟩
theorem one_sum (a k : Int) (x : Nat) : sumTo (fun _ => a) (fun _ => k) 1 x = if a = (x : Int) then k else 0 := by simp [sumTo]
theorem one_spread_le (a k : Int) (N : Nat) (h1 : 1 ≤ N) (k0 : 0 ≤ k) : spread (sumTo (fun _ => a) (fun _ => k) 1) N ≤ k := by
  have := spread_le (sumTo (fun _ => a) (fun _ => k) 1) N h1 0 k (fun x _ => by rw [one_sum]; split <;> omega)
  omega
theorem one_spread (a k : Int) (N : Nat) (h1 : 1 < N) (a0 : 0 ≤ a) (a1 : a < N) (k0 : 0 ≤ k) : spread (sumTo (fun _ => a) (fun _ => k) 1) N = k := by
  have hle := one_spread_le a k N (by omega) k0
  obtain ⟨A, rfl⟩ := Int.eq_ofNat_of_zero_le a0
  have e1 := endTo_ext (sumTo (fun _ => (A : Int)) (fun _ => k) 1) N A (by omega)
  have e2 := endTo_ext (sumTo (fun _ => (A : Int)) (fun _ => k) 1) N (if A = 0 then 1 else 0) (by split <;> omega)
  rw [one_sum _ _ A, if_pos rfl] at e1
  rw [one_sum _ _ (if A = 0 then 1 else 0), if_neg (by split <;> omega)] at e2
  unfold spread at hle ⊢
  omega
theorem spread_one (h : Nat → Int) : spread h 1 = 0 := by
  obtain ⟨_, _, c⟩ := endTo_lt h 1
  obtain ⟨c1, c2⟩ := c (by omega)
  unfold spread
  rw [show (endTo h 1).1 = 0 by omega, show (endTo h 1).2 = 0 by omega]
  omega
theorem one_run (q : Nat → Int) (a k : Int) (N m : Nat) (h1 : 1 ≤ N) (k0 : 0 ≤ k) (gone : Nat → Bool) : runP q (fun _ => k) 1 N m (fun _ => a) gone = [] :=
  runP_stop (by rw [bestTo_none _ _ _ _ _ 1 (fun _ _ => one_spread_le a k N h1 k0)]; omega)
theorem sum_id (k : Int) (x : Nat) : ∀ i, sumTo qOf (fun _ => k) i x = if x < i then k else 0
  | 0 => by simp [sumTo]
  | i + 1 => by
    have e : sumTo qOf (fun _ => k) (i + 1) x = sumTo qOf (fun _ => k) i x + if qOf i = (x : Int) then k else 0 := rfl
    rw [e, sum_id k x i]
    unfold qOf
    by_cases h : x < i
    · rw [if_pos h, if_neg (by omega), if_pos (show x < i + 1 by omega)]; omega
    · rw [if_neg h]
      by_cases h2 : x = i
      · subst h2; rw [if_pos rfl, if_pos (by omega)]; omega
      · rw [if_neg (by omega), if_neg (by omega)]; omega
theorem id_spread (k : Int) (N : Nat) (h1 : 1 ≤ N) : spread (sumTo qOf (fun _ => k) N) N = 0 := by
  have a := spread_le (sumTo qOf (fun _ => k) N) N h1 k k (fun x hx => by rw [sum_id, if_pos hx]; omega)
  have b := spread_nonneg (sumTo qOf (fun _ => k) N) N h1
  omega
theorem id_run (k : Int) (N m : Nat) (h1 : 1 ≤ N) (k0 : 0 ≤ k) (gone : Nat → Bool) : runP qOf (fun _ => k) N N m qOf gone = [] :=
  runP_stop (by rw [bestTo_none _ _ _ _ _ N (fun _ _ => by rw [id_spread k N h1]; exact k0)]; omega)
theorem id_ok (k : Int) (N : Nat) (h1 : 1 ≤ N) (h4 : N ≤ 4) (k0 : 0 ≤ k) (k1 : k ≤ 1000) : LdOk qOf qOf (fun _ => k) N N :=
  ⟨h4, h1, by omega, fun i hi => by unfold lastQ qOf; split <;> omega, fun i hi => by unfold qOf; omega, fun _ _ => ⟨k0, k1⟩⟩
theorem four_nat : ((4 : Nat) : Int) = 4 := rfl
theorem bal_none (A : Option Addr) (L c B : Nat) (q n k : Nat → Int) (N : Nat) (w : World) (h : LdOk q n k L N) (hc : L ≤ c) (hr : Reads w B 3 A L (ldCells q n k L)) (hB : B ≤ w.heap.size) (hrun : runP q k L N 4 n (fun _ => false) = []) :
    Calls Try.prog 11 #[.slice A L c, .int .i64 N, .int .i64 4] w (BalPost w []) := by
  have h4 := bal_ok A L c B q n k N 4 w h hc hr hB (by omega)
  rw [hrun, four_nat] at h4
  exact h4
theorem plans_nil {w : World} {base : Nat} {v : Value} (h : w.ownsRow base 35 3 v 0 (plCells [])) : ∃ A c, v = .slice A 0 c := by
  obtain ⟨A, c, rfl, _⟩ := own_shape h
  exact ⟨A, c, rfl⟩

set_option maxRecDepth 100000 in
set_option maxHeartbeats 1000000 in
theorem planCalm_walk (wk nn at_ : Int) (w : World) (hwk : Is64 wk) (hnn : Is64 nn) (hat : Is64 at_) :
    Calls Try.prog 5 #[.int .i64 wk, .int .i64 nn, .int .i64 at_] w fun e w' => e = .returned (.bool true) ∧ Below w.heap.size w w' := by
  obtain ⟨i0, hi0, hz0, hz1, hz2⟩ := info_parts ld_info
  obtain ⟨hw1, hw2⟩ := hwk
  obtain ⟨hn1, hn2⟩ := hnn
  obtain ⟨ha1, ha2⟩ := hat
  have p0 := pick_lo nn 5 (by omega)
  have p1 := pick_hi nn 5 (by omega)
  have k0 := pick_lo wk 1000 (by omega)
  have k1 := pick_hi wk 1000 (by omega)
  have PN := Lib.hid (fun W => picked_any nn 5 W hn1 hn2 (by omega) (by omega))
  have PK := Lib.hid (fun W => picked_any wk 1000 W hw1 hw2 (by omega) (by omega))
  generalize pick nn 5 = P at *
  generalize pick wk 1000 = k at *
  obtain ⟨N, hN⟩ : ∃ N : Nat, (N : Int) = 1 + P := ⟨(1 + P).toNat, by omega⟩
  have i1 : IntKind.i64.wrap (1 + P) = (N : Int) := by rw [hN]; exact IntWalk.i64_in _ (by omega)
  have hN1 : 1 ≤ N := by omega
  have hN5 : N ≤ 5 := by omega
  have a0 := pick_lo at_ N (by omega)
  have a1 := pick_hi at_ N (by omega)
  have PA := Lib.hid (fun W => picked_any at_ N W ha1 ha2 (by omega) (by omega))
  generalize pick at_ N = a at *
  clear hN p0 p1
  have SN := Lib.hid (fun i => show ldCells qOf qOf (fun _ => k) (i + 1) = ldCells qOf qOf (fun _ => k) i ++ [.int .i64 i, .int .i64 i, .int .i64 k] from ldCells_snoc _ _ _ _)
  go_enter Try.func5, Try.ntmps5
  go_wp2_with fail
  refine (PN.out _).mono ?_
  rintro e w' ⟨rfl, rfl⟩
  go_wp2_with fail
  refine (PK.out _).mono ?_
  rintro e w' ⟨rfl, rfl⟩
  go_wp2_with fail
  clear PN PK
  go_loopw [9, 10] (fun s9 s10 wr => ∃ i : Nat, i ≤ N ∧ i ≤ 4 ∧ s10 = .int .i64 i ∧ wr.ownsRow w.heap.size 37 3 s9 i (ldCells qOf qOf (fun _ => k) i) ∧ Below w.heap.size w wr) (fun _ s10 _ => 4 - (intOf s10).toNat)
  case atStart => exact ⟨0, by omega, by omega, rfl, World.ownsRow_nil _ _ _ _, Below.refl _ _⟩
  case round =>
    obtain ⟨i, hi, hi4, rfl, O, bel⟩ := hrel
    by_cases hc : i < N ∧ i < 4
    · obtain ⟨hiN, hi5⟩ := hc
      have hI : (i : Int) < (N : Int) := by omega
      have hI2 : (i : Int) < 4 := by omega
      have i2 : IntKind.i64.wrap ((i : Int) + 1) = (i : Int) + 1 := IntWalk.i64_in _ (by omega)
      have SN2 := Lib.hid (SN.out i)
      have hsz := bel.size
      have o7 := O.alloc (.cells #[.int .i64 i, .int .i64 i, .int .i64 k] 37)
      have rR := reads_oneP wr 37 #[.int .i64 i, .int .i64 i, .int .i64 k] 3 rfl
      have beld := bel.alloc hsz (.cells #[.int .i64 i, .int .i64 i, .int .i64 k] 37)
      clear SN PA
      go_wp2_with (at_builtin; go_loud (refine wpList_append_any _ rfl (.tmp 34) (.tmp 39) _ rfl w.heap.size 37 i0 _ 3 24 Try.underlying24 hi0 hz0 hz1 hz2 rfl (by omega) _ i (ldCells qOf qOf (fun _ => k) i) rfl o7 _ _ 1 1 _ rfl rR (by intro u hu; simp at hu; rcases hu with h | h <;> subst h <;> rfl) (by simp only [maxLen]; omega) (by omega) (by simp; omega) ?_; intro v8 w8 o8 g8 at8))
      have bel8 := beld.grown g8 (by simp; omega) (own_block_geP o7)
      go_roundw
      case rel => exact ⟨i + 1, by omega, by omega, by go_num, by rw [SN2.out]; exact o8, bel8⟩
      case measure => simp [intOf]; omega
    · have HOO := Lib.hid (one_ok a k N hN1 hN5 a0 a1 k0 (by omega))
      have CB := Lib.hid (fun A B W hr hb => bal_none A 1 1 B (fun _ => 2) (fun _ => a) (fun _ => k) N W (one_ok a k N hN1 hN5 a0 a1 k0 (by omega)) (by omega) hr hb (one_run (fun _ => 2) a k N 4 hN1 k0 (fun _ => false)))
      have CS := Lib.hid (fun A B W hr hb => spread_ok A 1 1 B (fun _ => 2) (fun _ => a) (fun _ => k) N W (one_ok a k N hN1 hN5 a0 a1 k0 (by omega)) (by omega) hr hb)
      have hsz := bel.size
      obtain ⟨A9, c9, rfl, hc9, NW⟩ := own_now O
      by_cases h5 : 4 < N
      · have h5I : (4 : Int) < (N : Int) := by omega
        have hiN : i = 4 := by omega
        have hI : (4 : Int) < (N : Int) := by omega
        subst hiN
        obtain ⟨g, hA, hg, R⟩ := NW.2 (by omega)
        subst hA
        have hsp := one_spread a k N (by omega) a0 a1 k0
        rw [hsp] at CS
        have y2 := R.cell (ldCells_at qOf qOf (fun _ => k) 4 0 2 (by omega) (by omega))
        simp only [List.getD_cons_zero, List.getD_cons_succ, Nat.zero_mul, Nat.zero_add] at y2
        have zf := R.frozen
        have zg := R.lt
        have belS := bel.setCell (p := ⟨g, 2, none⟩) hg (.int .i64 0)
        clear SN HOO hsp NW R bel O hc
        go_wp2_with fail
        refine (PA.out _).mono ?_
        rintro e w' ⟨rfl, rfl⟩
        have belO := belS.alloc (by have := belS.size; simpa using this) (.cells #[.int .i64 2, .int .i64 a, .int .i64 k] 37)
        have rO := reads_oneP (wr.setCell ⟨g, 2, none⟩ (.int .i64 0)) 37 #[.int .i64 2, .int .i64 a, .int .i64 k] 3 rfl
        rw [one_cells] at rO
        try rw [World.size_setCell] at rO
        clear PA
        go_wp2_with fail
        refine (CB.out _ _ _ rO (by simp)).mono ?_
        rintro e w2 ⟨v2, rfl, o2, b2⟩
        obtain ⟨A12, c12, rfl⟩ := plans_nil o2
        have rO2 := rO.below (b2.mono (by simp))
        have bel2 := belO.trans (b2.mono belO.size)
        have hs2 := b2.size
        rw [World.size_alloc] at hs2
        try rw [World.size_setCell] at hs2
        clear CB o2
        go_wp2_with fail
        refine (CS.out _ _ _ rO2 hs2).mono ?_
        rintro e w3 ⟨rfl, b3⟩
        have bel3 := bel2.trans (b3.mono bel2.size)
        clear CS rO2 rO
        go_wp2_with fail
        go_ret
        exact ⟨ret_true (by simp), bel3⟩
      · have hN4 : N ≤ 4 := by omega
        have h5I : ¬ (4 : Int) < (N : Int) := by omega
        have hiN : i = N := by omega
        subst hiN
        have r9 := NW.reads
        obtain ⟨g, hA, hg, R⟩ := NW.2 (by omega)
        subst hA
        have CB2 := Lib.hid (fun A B W hr hb => bal_none A i c9 B qOf qOf (fun _ => k) i W (id_ok k i hN1 hN4 k0 (by omega)) hc9 hr hb (id_run k i 4 hN1 k0 (fun _ => false)))
        have CS2 := Lib.hid (fun A B W hr hb => id_spread k i hN1 ▸ spread_ok A i c9 B qOf qOf (fun _ => k) i W (id_ok k i hN1 hN4 k0 (by omega)) hc9 hr hb)
        have hII : ¬ (i : Int) < (i : Int) := by omega
        clear SN HOO NW O hc
        go_wp2_with fail
        refine (PA.out _).mono ?_
        rintro e w' ⟨rfl, rfl⟩
        have belO := bel.alloc (by have := bel.size; simpa using this) (.cells #[.int .i64 2, .int .i64 a, .int .i64 k] 37)
        have rO := reads_oneP wr 37 #[.int .i64 2, .int .i64 a, .int .i64 k] 3 rfl
        rw [one_cells] at rO
        try rw [World.size_setCell] at rO
        clear PA
        go_wp2_with fail
        refine (CB.out _ _ _ rO (by simp)).mono ?_
        rintro e w2 ⟨v2, rfl, o2, b2⟩
        obtain ⟨A12, c12, rfl⟩ := plans_nil o2
        have rO2 := rO.below (b2.mono (by simp))
        have bel2 := belO.trans (b2.mono belO.size)
        have hs2 := b2.size
        rw [World.size_alloc] at hs2
        try rw [World.size_setCell] at hs2
        clear CB o2
        go_wp2_with fail
        refine (CS.out _ _ _ rO2 hs2).mono ?_
        rintro e w3 ⟨rfl, b3⟩
        have bel3 := bel2.trans (b3.mono bel2.size)
        clear CS rO2 rO
        have r93 := (((r9.alloc (Nat.le_refl _) (.cells #[.int .i64 2, .int .i64 a, .int .i64 k] 37)).below (b2.mono (by simp))).below (b3.mono (by omega)))
        have R3 := ((R.alloc (.cells #[.int .i64 2, .int .i64 a, .int .i64 k] 37)).below b2 (by have := R.lt; simp; omega)).below b3 (by have := R.lt; omega)
        have hs3 := b3.size
        clear r9 R b2 b3
        go_wp2_with fail
        refine (CB2.out _ _ _ r93 (by omega)).mono ?_
        rintro e w4 ⟨v4, rfl, o4, b4⟩
        obtain ⟨A16, c16, rfl⟩ := plans_nil o4
        have r94 := r93.below (b4.mono (by omega))
        have R4 := R3.below b4 R3.lt
        have bel4 := bel3.trans (b4.mono bel3.size)
        have hs4 := b4.size
        clear o4 r93 R3 CB2
        go_wp2_with fail
        refine (CS2.out _ _ _ r94 (by omega)).mono ?_
        rintro e w5 ⟨rfl, b5⟩
        have R5 := R4.below b5 R4.lt
        have bel5 := bel4.trans (b5.mono bel4.size)
        clear r94 R4 CS2 b5 b4
        have y2 := R5.cell (ldCells_at qOf qOf (fun _ => k) i 0 2 (by omega) (by omega))
        simp only [List.getD_cons_zero, List.getD_cons_succ, Nat.zero_mul, Nat.zero_add] at y2
        have zg := R5.lt
        by_cases h1 : i = 1
        · subst h1
          rw [spread_one]
          go_wp2_with fail
          go_ret
          exact ⟨ret_true (by simp), bel5⟩
        · rw [one_spread a k i (by omega) a0 a1 k0]
          have h1I : ¬ (i : Int) = 1 := by omega
          have h1II : (1 : Int) < (i : Int) := by omega
          have hp0 : (0 : Int) < (i : Int) := by omega
          go_wp2_with fail
          go_ret
          exact ⟨ret_true (by simp), bel5⟩

end Go.Proofs.Ytcbpgmpbjcknbaa
