/- RepairAgain: the walk. -/
import Derived.Test.YtcgamaponeglhaaLawTTorn
import Derived.Test.YtcgamaponeglhaaRepair
import Derived.Deep.RegionLaw
namespace Go.Proofs.Ytcgamaponeglhaa
open Go.RowKit

/-- a repair of a tape of which nothing was synced -/
def Rep0 (w : World) (DT : List Int) (m : Nat) (e : Ending) (w' : World) : Prop :=
  ∃ A, e = .returned (.tuple #[.agg #[.slice A m m, .int .i64 0], .int .i64 0]) ∧ Reads w' w'.heap.size 1 A m (DT.map (Value.int .u8)) ∧ Fresh w.heap.size A ∧ Below w.heap.size w w'
theorem repair0 (A : Option Addr) (n c B : Nat) (d DT : List Int) (m : Nat) (w : World) (h : Reads w B 1 A n (d.map (Value.int .u8))) (hn : n ≤ c) (hc : n ≤ 90000) (hB : B ≤ w.heap.size) (hz : ∀ z ∈ d, 0 ≤ z ∧ z ≤ 255) (hm : (readOf d).2 = m) (hd : d.take m = DT) :
    Calls Try.prog 25 #[.agg #[.slice A n c, .int .i64 0]] w (Rep0 w DT m) := by
  subst hm hd
  refine (repair_ok A n c B d 0 w h hn hc hB (Nat.zero_le _) hz).mono ?_
  rintro e w' ⟨A', he, hr⟩
  rw [show min ((0 : Nat) : Int) ((readOf d).2 : Int) = 0 by omega] at he
  exact ⟨A', he, hr⟩

set_option maxRecDepth 100000 in
set_option maxHeartbeats 2000000 in
theorem repairAgain_walk (A : Option Addr) (n c : Nat) (rows : List (List Int)) (Aj : Option Addr) (nj cj : Nat) (zs : List Int) (w : World) (h : IsRows 4 32 w A n c rows) (hj : IsNums .u8 1 w Aj nj cj zs) :
    Calls Try.prog 11 #[.slice A n c, .slice Aj nj cj] w fun e w' => e = .returned (.bool true) ∧ Below w.heap.size w w' := by
  obtain ⟨i0, hi0, hz0, hz1, hz2⟩ := info_parts u8_info
  have CT := Lib.hid (taped_any A n c rows w h)
  obtain ⟨hjl, hjnc, hjcb, hjr, hjwf⟩ := hj
  have CS := Lib.hid (fun (W : World) (hd : Reads W w.heap.size 1 Aj nj (zs.map (Value.int .u8))) => some_any Aj nj cj w.heap.size 60 zs W hd hjnc (by omega) (by omega) (by omega))
  have hfl := frames_len (recsN rows (rounds n))
  have hck := recsN_check rows (rounds n)
  have hrl := recsN_length rows (rounds n)
  have hr10 : (recsN rows (rounds n)).length ≤ 10 := by rw [hrl]; unfold rounds; omega
  clear hrl
  generalize recsN rows (rounds n) = rs at *
  have hbd := frames_bd rs hck
  obtain ⟨j, hj⟩ : ∃ j, zs.take (60 : Int).toNat = j := ⟨_, rfl⟩
  have hjn : j.length = min nj (60 : Int).toNat := by rw [← hj, List.length_take, hjl]; simp; omega
  have hjbd : ∀ z ∈ j, 0 ≤ z ∧ z ≤ 255 := fun z hz => u8_of_wf (hjwf z (List.mem_of_mem_take (by rw [hj]; exact hz)))
  have HJ := Lib.hid hj
  have HJN := Lib.hid hjn
  have hj60 : j.length ≤ 60 := by rw [hjn]; simp; omega
  clear hj hjn hjwf
  have hrd := readOf_frames rs hck j
  have hag := readOf_again (frames rs ++ j).length (frames rs ++ j) (Nat.le_refl _)
  have hpos : rs.length = 0 ∨ 0 < (frames rs).length := by
    rcases rs with _ | ⟨r, rs⟩
    · left; rfl
    · right
      have := frameOf_length (recBytes r)
      simp only [frames, List.flatMap_cons, List.length_append]
      omega
  obtain ⟨d, hd⟩ : ∃ d, frames rs = d := ⟨_, rfl⟩
  rw [hd] at hfl hrd hbd hag hpos
  have HD := Lib.hid hd
  have hbd2 : ∀ z ∈ d ++ j, 0 ≤ z ∧ z ≤ 255 := fun z hz => (List.mem_append.1 hz).elim (hbd z) (hjbd z)
  have hle : (readOf (d ++ j)).2 ≤ (d ++ j).length := readGo_le _ _
  obtain ⟨⟨r2, m2⟩, hr2⟩ : ∃ F, readOf j = F := ⟨_, rfl⟩
  rw [hr2] at hrd
  clear hd hck hbd hjbd hr2
  have hx := one_nums .u8 j
  go_enter Try.func11, Try.ntmps11
  go_wp2_with fail
  refine CT.out.mono ?_
  rintro e w1 ⟨v, u, rfl, o1, o2, b1⟩
  clear CT
  rw [HD.out] at o1
  obtain ⟨A1, c1, rfl, hc1, hm1⟩ := own_shape o1
  obtain ⟨Au, cu, rfl, hcu, hcu2⟩ := own_shape o2
  have bz := b1.size
  go_wp2_with fail
  have E1 := Blk.new w1 45 #[.slice A1 d.length c1, .int .i64 0]
  have O1 := o1.alloc (.cells #[.slice A1 d.length c1, .int .i64 0] 45)
  have O2 := o2.alloc (.cells #[.slice A1 d.length c1, .int .i64 0] 45)
  have bel := b1.alloc bz (.cells #[.slice A1 d.length c1, .int .i64 0] 45)
  have RJ := (hjr.below b1).alloc bz (.cells #[.slice A1 d.length c1, .int .i64 0] 45)
  obtain ⟨g, hg⟩ : ∃ g, g = w1.heap.size := ⟨_, rfl⟩
  rw [← hg] at E1 bz ⊢
  generalize w1.alloc (.cells #[.slice A1 d.length c1, .int .i64 0] 45) = wS at *
  clear o1 o2 b1 hg hjr
  have O1d : wS.drew.ownsRow w.heap.size 5 1 (.slice A1 d.length c1) d.length (d.map (Value.int .u8)) := O1
  have O2d : wS.drew.ownsRow w.heap.size 29 10 (.slice Au rs.length cu) rs.length (rcRow rs) := O2
  have t0 := E1.cell 0
  have t1 := E1.cell 1
  have tf := E1.frozen
  have zS := E1.lt
  go_cut [25] (fun s25 wx => ∃ A4 c4, s25 = .slice A4 (d.length + j.length) c4 ∧ d.length + j.length ≤ c4 ∧ Blk wx g 45 #[.slice A4 (d.length + j.length) c4, .int .i64 0] ∧ wx.ownsRow w.heap.size 5 1 (.slice A4 (d.length + j.length) c4) (d.length + j.length) ((d ++ j).map (Value.int .u8)) ∧ wx.ownsRow w.heap.size 29 10 (.slice Au rs.length cu) rs.length (rcRow rs) ∧ Below w.heap.size w wx)
  case first =>
    go_region_law
      (first
        | (go_simp; go_at_call 18; refine (CS.out _ RJ.drew).mono ?_; rintro e w2 ⟨v2, rfl, o3, b3⟩; rw [HJ.out, ← HJN.out] at o3; obtain ⟨Ab, cb, rfl, hcb, hcb2⟩ := own_shape o3; have rj := Reads.of_own o3; have E2 := E1.drew.below b3 E1.lt; have Q1 := own_below O1d b3 (Nat.le_refl _); have Q2 := own_below O2d b3 (Nat.le_refl _); have bel2 := bel.drew.trans (b3.mono bel.size); have p0 := E2.cell 0; have p1 := E2.cell 1; clear o3; dsimp only)
        | (refine step_append_any _ rfl (.tmp 22) (.tmp 24) _ rfl w.heap.size 5 i0 _ 1 1 Try.underlying31 hi0 hz0 hz1 hz2 rfl (by omega) (.slice A1 d.length c1) d.length (d.map (Value.int .u8)) rfl Q1 _ Ab j.length cb (j.map (Value.int .u8)) rfl rj hx (by simp only [maxLen]; omega) (by omega) bel2.size ?_; intro v4 w4 o4 g4 at4; have n1 := own_blk_ne Q1 E2 (by decide); have E4 := E2.grown g4 (fun h => n1 h.symm); have Q4 := own_grown Q2 g4 (own_row_ne Q2 Q1 (by decide)); have bel4 := bel2.grown g4 bel2.size (own_block_ge Q1); have n4 := own_blk_ne o4 E4 (by decide); have n4' := own_blk_ne Q4 E4 (by decide); obtain ⟨A4, c4, rfl, hc4, hc4'⟩ := own_shape o4; have q0 := E4.cell 0; have q1 := E4.cell 1; have qf := E4.frozen; have qz := E4.lt))
    all_goals
      first
        | go_meet
        | (go_wp2_with fail
           go_meet)
      exact ⟨A4, c4, rfl, hc4, E4.set_ 0 _, by rw [List.map_append]; exact ownsRow_setCell_other o4 n4 _, ownsRow_setCell_other Q4 n4' _, bel4.setCell (by omega) _⟩
  case rest =>
    obtain ⟨A4, c4, rfl, hc4, E2, Q1, Q2, bel2⟩ := hcut
    clear t0 t1 tf zS O1d O2d O1 O2 E1 CS RJ bel HJ HJN HD
    obtain ⟨D, hD⟩ : ∃ D, d ++ j = D := ⟨_, rfl⟩
    have hDl : d.length + j.length = D.length := by rw [← hD, List.length_append]
    rw [hDl] at hc4 E2 Q1
    rw [hD] at hrd hag hle Q1 hbd2
    rw [hrd] at hag hle
    have hbd3 : ∀ z ∈ D.take (d.length + m2), 0 ≤ z ∧ z ≤ 255 := fun z hz => hbd2 z (List.mem_of_mem_take hz)
    have hDT : (D.take (d.length + m2)).length = d.length + m2 := by rw [List.length_take]; exact Nat.min_eq_left hle
    have hd0 : d.length ≤ d.length + m2 := Nat.le_add_right _ _
    simp only at hle hag
    obtain ⟨DT, hDTe⟩ : ∃ DT, D.take (d.length + m2) = DT := ⟨_, rfl⟩
    rw [hDTe] at hag hbd3 hDT
    have C1 := Lib.hid (fun W B hr hB => repair0 A4 D.length c4 B D DT (d.length + m2) W hr hc4 (by omega) hB hbd2 (by rw [hrd]) hDTe)
    have C2 := Lib.hid (fun A W B hr hB => repair0 A (d.length + m2) (d.length + m2) B DT DT (d.length + m2) W hr (Nat.le_refl _) (by omega) hB hbd3 (by rw [hag]) (List.take_of_length_le (by omega)))
    have C3 := Lib.hid (fun A W B hr hB => read_ok A (d.length + m2) (d.length + m2) B DT 0 W hr (Nat.le_refl _) (by omega) hB (Int.le_refl _) (by omega) hbd3)
    rw [hag] at C3
    have hM := Lib.hid (show rs.length = 0 ∨ 0 < d.length + m2 by omega)
    have hMb : d.length + m2 ≤ 10000 := by omega
    clear hDT
    have hrt : (rcRow (rs ++ r2)).take (rs.length * 10) = rcRow rs := by rw [rcRow_take _ _ (by simp)]; simp
    have HRT := Lib.hid hrt
    have hGl : rs.length ≤ (rs ++ r2).length := by simp
    clear hDTe
    generalize d.length + m2 = M at *
    generalize rs ++ r2 = G at *
    clear hpos hrd hag hbd2 hbd3 hle hfl hrt hd0 hD
    have r1 := Reads.of_own Q1
    have r2' := Reads.of_own Q2
    have t0 := E2.cell 0
    have t1 := E2.cell 1
    have z2 := E2.lt
    go_wp2_with fail
    refine (C1.out _ _ r1 (Nat.le_refl _)).mono ?_
    rintro e w5 ⟨A5, rfl, r5, _, b5⟩
    have q2 := (r2'.below b5).more b5.size
    have bel5 := bel2.trans (b5.mono bel2.size)
    have EA := Blk.new w5 45 #[.slice A5 M M, .int .i64 0]
    have rA := (r5.alloc (Nat.le_refl _) (.cells #[.slice A5 M M, .int .i64 0] 45)).more (show w5.heap.size ≤ (w5.alloc (.cells #[.slice A5 M M, .int .i64 0] 45)).heap.size by simp)
    have qA := (q2.alloc (Nat.le_refl _) (.cells #[.slice A5 M M, .int .i64 0] 45)).more (show w5.heap.size ≤ (w5.alloc (.cells #[.slice A5 M M, .int .i64 0] 45)).heap.size by simp)
    have belA := bel5.alloc bel5.size (.cells #[.slice A5 M M, .int .i64 0] 45)
    obtain ⟨ga, hga⟩ : ∃ ga, ga = w5.heap.size := ⟨_, rfl⟩
    clear b5 r5 q2 bel5 r1 r2' Q1 Q2 E2 t0 t1 z2 bel2 C1 hDl
    go_wp2_with fail
    rw [← hga] at EA ⊢
    generalize w5.alloc (.cells #[.slice A5 M M, .int .i64 0] 45) = wA at *
    clear hga
    refine (C2.out _ _ _ rA (Nat.le_refl _)).mono ?_
    rintro e w6 ⟨A6, rfl, r6, _, b6⟩
    have EA6 := EA.below b6 EA.lt
    have rA6 := (rA.below b6).more b6.size
    have qA6 := (qA.below b6).more b6.size
    have bel6 := belA.trans (b6.mono belA.size)
    have EB := Blk.new w6 45 #[.slice A6 M M, .int .i64 0]
    have eA := EA6.alloc (.cells #[.slice A6 M M, .int .i64 0] 45)
    have hsz : w6.heap.size ≤ (w6.alloc (.cells #[.slice A6 M M, .int .i64 0] 45)).heap.size := by simp
    have rB := (r6.alloc (Nat.le_refl _) (.cells #[.slice A6 M M, .int .i64 0] 45)).more hsz
    have rA7 := (rA6.alloc (Nat.le_refl _) (.cells #[.slice A6 M M, .int .i64 0] 45)).more hsz
    have qB := (qA6.alloc (Nat.le_refl _) (.cells #[.slice A6 M M, .int .i64 0] 45)).more hsz
    have belB := bel6.alloc bel6.size (.cells #[.slice A6 M M, .int .i64 0] 45)
    obtain ⟨gb, hgb⟩ : ∃ gb, gb = w6.heap.size := ⟨_, rfl⟩
    have e0 := EA6.cell 0
    have e1 := EA6.cell 1
    have e2 := EA6.lt
    clear b6 r6 EA6 rA6 qA6 bel6 EA rA qA belA C2 hsz
    go_wp2_with fail
    rw [← hgb] at EB ⊢
    generalize w6.alloc (.cells #[.slice A6 M M, .int .i64 0] 45) = wB at *
    clear hgb e0 e1 e2
    refine (C3.out _ _ _ rA7 (Nat.le_refl _)).mono ?_
    rintro e w7 ⟨ug, rfl, og, b7⟩
    change w7.ownsRow wB.heap.size 29 10 ug G.length (rcRow G) at og
    obtain ⟨Ag, cg, rfl, hcg, hcg2⟩ := own_shape og
    have rG := (Reads.of_own og).take hGl
    rw [HRT.out] at rG
    have eA7 := eA.below b7 eA.lt
    have eB7 := EB.below b7 EB.lt
    have rA8 := (rA7.below b7).more b7.size
    have rB8 := (rB.below b7).more b7.size
    have q8 := (qB.below b7).more b7.size
    have bel7 := belB.trans (b7.mono belB.size)
    clear og b7 eA EB rA7 rB qB belB C3
    have cA := fun q => conv_reads (P := Try.prog) (rA8.drewN q) 31 5 9 Try.underlying31 Try.underlying5 Try.underlying9 M
    have cB := fun q => conv_reads (P := Try.prog) (rB8.drewN q) 31 5 9 Try.underlying31 Try.underlying5 Try.underlying9 M
    have CS := Lib.hid (same_yes Ag Au rs.length cg cu w7.heap.size rs w7 rfl (by omega) rG q8)
    have a0 := eA7.cell 0
    have b0 := eB7.cell 0
    have hGI : (rs.length : Int) ≤ (G.length : Int) := by omega
    have hGc : (G.length : Int) ≤ (cg : Int) := by omega
    clear eA7 eB7 rA8 rB8 q8 rG
    go_wp2_with fail
    refine CS.out.mono ?_
    rintro e w8 ⟨rfl, q, rfl⟩
    go_wp2_with fail
    all_goals
      go_ret
      refine ⟨ret_true ?_, below_drewN bel7 _⟩
      first
        | rfl
        | (have h := hM.out
           simp
           rcases h with h | h
           · exact .inl (List.eq_nil_of_length_eq_zero h)
           · exact .inr h)

end Go.Proofs.Ytcgamaponeglhaa
