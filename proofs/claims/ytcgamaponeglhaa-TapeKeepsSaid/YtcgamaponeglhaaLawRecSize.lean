/- RecordSize: the walk. -/
import Derived.Test.YtcgamaponeglhaaEnc
import Derived.Test.YtcgamaponeglhaaTake
import Derived.Test.YtcgamaponeglhaaView
namespace Go.Proofs.Ytcgamaponeglhaa
open Go.RowKit

theorem inB_of {n lo hi : Int} (h1 : lo ≤ n) (h2 : n ≤ hi) : inB n lo hi = true := by simp [inB, h1, h2]
theorem evOf_check (k a b c : Int) : (evOf k a b c).check = 0 := by
  unfold evOf
  have := pick_lo a 2 (by omega); have := pick_hi a 2 (by omega)
  have := pick_lo b 24 (by omega); have := pick_hi b 24 (by omega)
  have := pick_lo c 1000 (by omega); have := pick_hi c 1000 (by omega)
  have := pick_lo a 3 (by omega); have := pick_hi a 3 (by omega)
  have := pick_lo b 6 (by omega); have := pick_hi b 6 (by omega)
  split
  · simp [Ev.check, Ev.ok1, inB_of (show 0 ≤ pick a 2 by omega) (show pick a 2 ≤ 3 by omega), inB_of (show 0 ≤ pick b 24 by omega) (show pick b 24 ≤ 1073741824 by omega), inB_of (show 0 ≤ pick c 1000 by omega) (show pick c 1000 ≤ 1000000 by omega)]
  · split
    · simp [Ev.check]
    · split
      · simp [Ev.check, Ev.ok3, inB_of (show 0 ≤ pick a 3 by omega) (show pick a 3 ≤ 1048576 by omega), inB_of (show 0 ≤ pick b 6 by omega) (show pick b 6 ≤ 1073741824 by omega)]
      · simp [Ev.check]
theorem recOf_check (k a b c k' a' b' c' : Int) : (recOf k a b c k' a' b' c').check = 0 := by
  have := pick_lo k' 7 (by omega); have := pick_hi k' 7 (by omega)
  have := pick_lo a' 4 (by omega); have := pick_hi a' 4 (by omega)
  have := pick_lo b' 1048577 (by omega); have := pick_hi b' 1048577 (by omega)
  have := pick_lo c' 5 (by omega); have := pick_hi c' 5 (by omega)
  unfold recOf Rc.check
  simp only
  rw [if_neg (by omega), if_neg (by
    rw [inB_of (show 0 ≤ pick a' 4 by omega) (show pick a' 4 ≤ 3 by omega), inB_of (show 0 ≤ pick b' 1048577 by omega) (show pick b' 1048577 ≤ 1048576 by omega), inB_of (show 0 ≤ pick c' 5 by omega) (show pick c' 5 ≤ 4 by omega)]
    simp)]
  cases h : hasEv (1 + pick k' 7) with
  | true => simp [evOf_check]
  | false => simp [Ev.zero, evNe]

theorem recBytes_head (r : Rc) : (recBytes r).take 4 = four r.kind := by
  unfold recBytes Rc.nums
  simp [bytesOf, four]

set_option maxHeartbeats 800000 in
theorem recordSize_walk (k a b c k' a' b' c' : Int) (w : World) (h0 : Is64 k) (h1 : Is64 a) (h2 : Is64 b) (h3 : Is64 c) (h4 : Is64 k') (h5 : Is64 a') (h6 : Is64 b') (h7 : Is64 c') :
    Calls Try.prog 3 #[.agg #[.int .i64 k, .int .i64 a, .int .i64 b, .int .i64 c], .agg #[.int .i64 k', .int .i64 a', .int .i64 b', .int .i64 c']] w fun e w' => e = .returned (.bool true) ∧ Below w.heap.size w w' := by
  have CR := fun W => Lib.hid (record_any k a b c k' a' b' c' W h0 h1 h2 h3 h4 h5 h6 h7)
  have hc := recOf_check k a b c k' a' b' c'
  generalize recOf k a b c k' a' b' c' = r at *
  have CE := fun W => Lib.hid (encode_yes r W hc)
  have hok := rc_ok r hc
  have HL := Lib.hid (recBytes_length r)
  have HV := Lib.hid (show valOf ((recBytes r).take 4) = r.kind by rw [recBytes_head, valOf_four])
  have HBD := Lib.hid (bytesOf_bd r.nums hok.bd)
  clear hc h0 h1 h2 h3 h4 h5 h6 h7
  have k1 := hok.k1
  have k7 := hok.k7
  clear hok
  obtain ⟨rk, q, ep, p, ⟨x0, x1, x2, x3, x4, x5⟩⟩ := r
  simp only at k1 k7 HV
  go_enter Try.func3, Try.ntmps3
  go_wp2_with fail
  refine ((CR _).out).mono ?_
  rintro e w1 ⟨rfl, b1⟩
  have bel1 := (((Below.refl w.heap.size w).alloc (Nat.le_refl _) _).alloc (by simp) _).trans (b1.mono (by simp; omega))
  clear b1 CR
  unfold Rc.val Rc.cells
  go_wp2_with fail
  refine ((CE _).out).mono ?_
  rintro e w2 ⟨v, rfl, o2, b2⟩
  have E2 := (Blk.new w1 29 (Rc.cells ⟨rk, q, ep, p, ⟨x0, x1, x2, x3, x4, x5⟩⟩)).below b2 (by simp)
  have bel2 := bel1.trans (((Below.refl _ _).alloc (Nat.le_refl _) _).trans (b2.mono (by simp)) |>.mono bel1.size)
  have c0 : w2.cell? ⟨w1.heap.size, 0, none⟩ = some (.int .i64 rk) := E2.cell 0
  clear b2 bel1 CE E2
  have hh := HL.out
  change (recBytes _).length = if hasEv rk then 40 else 16 at hh
  rcases hE : hasEv rk with _ | _
  · rw [if_neg (by rw [hE]; simp)] at hh
    rw [hh] at o2
    have q2 : (rk == 2) = false := by unfold hasEv at hE; simp at hE; exact beq_eq_false_iff_ne.2 hE.1
    have q5 : (rk == 5) = false := by unfold hasEv at hE; simp at hE; exact beq_eq_false_iff_ne.2 hE.2
    obtain ⟨A, cc, rfl, hcc, _⟩ := own_shape o2
    have r2 := Reads.of_own o2
    have CT := Lib.hid (take_four A 16 cc _ _ w2 r2 (by omega) hcc HBD.out)
    change Hid (Calls _ _ _ _ (TakePost (valOf ((recBytes _).take 4)) w2)) at CT
    rw [HV.out] at CT
    clear r2 hh hE o2 HV HL HBD
    go_wp2_with fail
    refine CT.out.mono ?_
    rintro e w3 ⟨rfl, rfl⟩
    clear CT
    rw [if_pos (by omega), if_pos (by omega)]
    go_wp2
    go_ret
    exact ⟨ret_true (by simp), bel2⟩
  · rw [if_pos hE] at hh
    rw [hh] at o2
    have hk : rk = 2 ∨ rk = 5 := by unfold hasEv at hE; simpa using hE
    rcases hk with rfl | rfl
    · obtain ⟨A, cc, rfl, hcc, _⟩ := own_shape o2
      have r2 := Reads.of_own o2
      have CT := Lib.hid (take_four A 40 cc _ _ w2 r2 (by omega) hcc HBD.out)
      change Hid (Calls _ _ _ _ (TakePost (valOf ((recBytes _).take 4)) w2)) at CT
      rw [HV.out] at CT
      clear r2 hh hE o2 HV HL HBD
      go_wp2_with fail
      refine CT.out.mono ?_
      rintro e w3 ⟨rfl, rfl⟩
      clear CT
      rw [if_pos (by omega), if_pos (by omega)]
      go_wp2
      go_ret
      exact ⟨ret_true (by simp), bel2⟩
    · obtain ⟨A, cc, rfl, hcc, _⟩ := own_shape o2
      have r2 := Reads.of_own o2
      have CT := Lib.hid (take_four A 40 cc _ _ w2 r2 (by omega) hcc HBD.out)
      change Hid (Calls _ _ _ _ (TakePost (valOf ((recBytes _).take 4)) w2)) at CT
      rw [HV.out] at CT
      clear r2 hh hE o2 HV HL HBD
      go_wp2_with fail
      refine CT.out.mono ?_
      rintro e w3 ⟨rfl, rfl⟩
      clear CT
      rw [if_pos (by omega), if_pos (by omega)]
      go_wp2
      go_ret
      exact ⟨ret_true (by simp), bel2⟩

end Go.Proofs.Ytcgamaponeglhaa
