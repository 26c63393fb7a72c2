/- TapeTorn: the walk. -/
import Derived.Test.YtcgamaponeglhaaLawTBack
namespace Go.Proofs.Ytcgamaponeglhaa
open Go.RowKit

theorem rcRow_take (rs : List Rc) (j : Nat) (hj : j ≤ rs.length) : (rcRow rs).take (j * 10) = rcRow (rs.take j) := by
  have h1 : rcRow rs = rcRow (rs.take j) ++ rcRow (rs.drop j) := by
    unfold rcRow
    rw [← List.flatMap_append, List.take_append_drop]
  have h2 : (rcRow (rs.take j)).length = j * 10 := by rw [rcRow_len, List.length_take, Nat.min_eq_left hj]
  rw [h1, ← h2, List.take_left]

set_option maxRecDepth 100000 in
set_option maxHeartbeats 1000000 in
theorem tapeTorn_walk (A : Option Addr) (n c : Nat) (rows : List (List Int)) (cut : Int) (w : World) (h : IsRows 4 32 w A n c rows) (hcut : Is64 cut) :
    Calls Try.prog 10 #[.slice A n c, .int .i64 cut] w fun e w' => e = .returned (.bool true) ∧ Below w.heap.size w w' := by
  have CT := Lib.hid (taped_any A n c rows w h)
  have hfl := frames_len (recsN rows (rounds n))
  have hck := recsN_check rows (rounds n)
  have hrl := recsN_length rows (rounds n)
  have hr10 : (recsN rows (rounds n)).length ≤ 10 := by rw [hrl]; unfold rounds; omega
  clear hrl
  generalize recsN rows (rounds n) = rs at *
  have hbd := frames_bd rs hck
  obtain ⟨h1, h2⟩ := hcut
  have pl := pick_lo cut ((frames rs).length + 1) (by omega)
  have ph := pick_hi cut ((frames rs).length + 1) (by omega)
  have P1 := fun W => Lib.hid (picked_any cut ((frames rs).length + 1) W h1 h2 (by omega) (by omega))
  obtain ⟨K, hK⟩ := Int.eq_ofNat_of_zero_le pl
  rw [hK] at P1 ph
  obtain ⟨j, hj, hrd, hjk, hjl⟩ := readOf_prefix rs hck K (by omega)
  obtain ⟨d, hd⟩ : ∃ d, frames rs = d := ⟨_, rfl⟩
  rw [hd] at hfl hrd hbd ph P1 hjl
  have HD := Lib.hid hd
  have hKd : K ≤ d.length := by omega
  clear hd hck hK pl h1 h2
  generalize hm : (frames (rs.take j)).length = m at *
  clear hm
  go_enter Try.func10, Try.ntmps10
  go_wp2_with fail
  refine CT.out.mono ?_
  rintro e w1 ⟨v, u, rfl, o1, o2, b1⟩
  clear CT
  rw [HD.out] at o1
  obtain ⟨A1, c1, rfl, hc1, hm1⟩ := own_shape o1
  obtain ⟨Au, cu, rfl, hcu, hcu2⟩ := own_shape o2
  have r1 := (Reads.of_own o1).take hKd
  rw [Nat.mul_one, ← List.map_take] at r1
  have r2 := (Reads.of_own o2).take hj
  rw [rcRow_take rs j hj] at r2
  have bz := b1.size
  clear o1 o2
  have hlt : (rs.take j).length = j := by rw [List.length_take]; omega
  have CR := Lib.hid (fun W B hr hB => read_ok A1 K K B (d.take K) 0 W hr (Nat.le_refl _) (by omega) hB (by omega) (by omega) (fun z h => hbd z (List.mem_of_mem_take h)))
  rw [hrd] at CR
  clear hbd hrd
  have HL := Lib.hid hlt
  clear hlt
  generalize rs.take j = rj at *
  have r3 := r1.alloc (Nat.le_refl _) (.cells #[.slice A1 d.length c1, .int .i64 0] 45)
  have r4 := r2.alloc (Nat.le_refl _) (.cells #[.slice A1 d.length c1, .int .i64 0] 45)
  have E1 := Blk.new w1 45 #[.slice A1 d.length c1, .int .i64 0]
  have bel := b1.alloc bz (.cells #[.slice A1 d.length c1, .int .i64 0] 45)
  have i1 : IntKind.i64.wrap ((d.length : Int) + 1) = (d.length : Int) + 1 := IntWalk.i64_in _ (by omega)
  clear r1 r2 b1
  go_wp2_with fail
  refine ((P1 _).out).mono ?_
  clear P1
  rintro e w9 ⟨rfl, hw9⟩
  generalize w1.alloc (.cells #[.slice A1 d.length c1, .int .i64 0] 45) = wS at *
  subst hw9
  have t0 := E1.cell 0
  have t1 := E1.cell 1
  have hKI : (K : Int) ≤ (d.length : Int) := by omega
  have hcI : (d.length : Int) ≤ (c1 : Int) := by omega
  go_wp2_with fail
  refine (CR.out _ _ r3 (by have := E1.lt; omega)).mono ?_
  rintro e w2 ⟨u2, rfl, o5, b5⟩
  change w2.ownsRow wS.heap.size 29 10 u2 rj.length (rcRow rj) at o5
  rw [HL.out] at o5
  obtain ⟨A2, c2, rfl, hc2, hm2⟩ := own_shape o5
  have E2 := E1.below b5 E1.lt
  have r5 := Reads.of_own o5
  have r6 := (r4.below (b5.mono (by have := E1.lt; omega))).more (show w1.heap.size ≤ w2.heap.size by have := E2.lt; omega)
  have bel2 := bel.trans (b5.mono bel.size)
  have CS := fun W (hr5 : Reads W w2.heap.size 10 A2 j (rcRow rj)) (hr6 : Reads W w2.heap.size 10 Au j (rcRow rj)) => Lib.hid (same_yes A2 Au j c2 cu w2.heap.size rj W HL.out (by omega) hr5 hr6)
  clear t0 t1
  have t0 := E2.cell 0
  have t1 := E2.cell 1
  have hmI : (m : Int) ≤ (K : Int) := by omega
  have hjI : (j : Int) ≤ (rs.length : Int) := by omega
  have hjc : (rs.length : Int) ≤ (cu : Int) := by omega
  clear E1 r3 r4 bel b5 o5 CR
  by_cases hjr : j = rs.length
  · obtain rfl : K = d.length := hjl.1 hjr
    subst hjr
    clear hjl hjI hj hKd hKI hmI
    go_wp2_with fail
    refine (CS _ r5 r6).out.mono ?_
    rintro e w3 ⟨rfl, q, rfl⟩
    go_wp2
    go_ret
    exact ⟨ret_true (by simp [*]), below_drewN bel2 _⟩
  · have hK2 : (K : Int) < (d.length : Int) := by
      have : ¬ K = d.length := fun e => hjr (hjl.2 e)
      omega
    have hK3 : ¬ K = d.length := by omega
    clear hjl
    go_wp2_with fail
    refine (CS _ r5 r6).out.mono ?_
    rintro e w3 ⟨rfl, q, rfl⟩
    go_wp2
    go_ret
    have e1 : ((j : Int) == (rs.length : Int)) = false := by rw [beq_eq_false_iff_ne]; omega
    have e2 : ((K : Int) == (d.length : Int)) = false := by rw [beq_eq_false_iff_ne]; omega
    exact ⟨ret_true (by simp [*]), below_drewN bel2 _⟩

end Go.Proofs.Ytcgamaponeglhaa
