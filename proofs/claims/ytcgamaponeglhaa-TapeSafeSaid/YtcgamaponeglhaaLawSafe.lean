/- TapeSafe: the walk. -/
import Derived.Test.YtcgamaponeglhaaTaped
import Derived.Test.YtcgamaponeglhaaTape2
namespace Go.Proofs.Ytcgamaponeglhaa
open Go.RowKit

set_option maxRecDepth 100000 in
set_option maxHeartbeats 2000000 in
theorem tapeSafe_walk (A : Option Addr) (n c : Nat) (rows : List (List Int)) (keep again : Int) (w : World) (h : IsRows 4 32 w A n c rows) (hk : Is64 keep) (ha : Is64 again) :
    Calls Try.prog 8 #[.slice A n c, .int .i64 keep, .int .i64 again] w fun e w' => e = .returned (.bool true) ∧ Below w.heap.size w w' := by
  have CT := Lib.hid (taped_any A n c rows w h)
  have hfl := frames_len (recsN rows (rounds n))
  rw [recsN_length] at hfl
  have hr10 : rounds n ≤ 10 := by unfold rounds; omega
  generalize recsN rows (rounds n) = rs at *
  have HRL := Lib.hid hfl
  obtain ⟨d, hd⟩ : ∃ d, frames rs = d := ⟨_, rfl⟩
  rw [hd] at hfl
  have HD := Lib.hid hd
  clear hd
  obtain ⟨hk1, hk2⟩ := hk
  obtain ⟨ha1, ha2⟩ := ha
  have pk := pick_lo keep 100 (by omega)
  have pk' := pick_hi keep 100 (by omega)
  have pa := pick_lo again 100 (by omega)
  have pa' := pick_hi again 100 (by omega)
  have P1 := fun W => Lib.hid (picked_any keep 100 W hk1 hk2 (by omega) (by omega))
  have P1' := fun (K : Nat) (hK : pick keep 100 = K) W => Lib.hid (picked_still keep 100 K W hK hk1 hk2 (by omega) (by omega))
  have P2 := fun W => Lib.hid (picked_any again 100 W ha1 ha2 (by omega) (by omega))
  obtain ⟨K, hK⟩ := Int.eq_ofNat_of_zero_le pk
  obtain ⟨L, hL⟩ := Int.eq_ofNat_of_zero_le pa
  replace P1' := P1' K hK
  rw [hK] at P1 pk'
  rw [hL] at P2 pa'
  clear pk pa hK hL hk1 hk2 ha1 ha2
  go_enter Try.func8, Try.ntmps8
  go_wp2_with fail
  refine CT.out.mono ?_
  rintro e w1 ⟨v, u, rfl, o1, o1r, b1⟩
  obtain ⟨Au, cu, rfl, hcu, hcu2⟩ := own_shape o1r
  clear o1r
  clear CT
  rw [HD.out] at o1
  obtain ⟨A1, c1, rfl, hc1, hm1⟩ := own_shape o1
  have r1 := Reads.of_own o1
  have bz := b1.size
  clear o1
  have CS := Lib.hid (fun W B hr hB => sync_ok A1 d.length c1 B d 0 W hr hc1 (by omega) hB (by omega) (by omega))
  have CB := Lib.hid (fun W B hr hB => crash_ok A1 d.length c1 B 0 K d W hr hc1 (by omega) hB (by omega) (by omega))
  go_wp2_with fail
  refine (CS.out _ _ (r1.alloc (Nat.le_refl _) _) (by simp)).mono ?_
  rintro e w2 ⟨v2, rfl, o2, b2⟩
  obtain ⟨A2, c2, rfl, hc2, hm2⟩ := own_shape o2
  have r2 := Reads.of_own o2
  have r12 := (r1.alloc (Nat.le_refl _) (.cells #[.slice A1 d.length c1, .int .i64 0] 45)).below (b2.mono (by simp))
  have E1 := (Blk.new w1 45 #[.slice A1 d.length c1, .int .i64 0]).below b2 (by simp)
  have bel2 := (b1.alloc bz (.cells #[.slice A1 d.length c1, .int .i64 0] 45)).trans (b2.mono (by simp; omega))
  have bz2 : w1.heap.size + 1 ≤ w2.heap.size := by have := b2.size; simpa using this
  clear r1 o2 b2 b1 CS
  have CA := Lib.hid (fun W B hr hB => crash_ok A2 d.length c2 B d.length K d W hr hc2 (by omega) hB (by omega) (by omega))
  go_wp2_with fail
  have E2 := Blk.new w2 45 #[.slice A2 d.length c2, .int .i64 d.length]
  have rS := r2.alloc (Nat.le_refl _) (.cells #[.slice A2 d.length c2, .int .i64 d.length] 45)
  have rT := r12.alloc (by omega) (.cells #[.slice A2 d.length c2, .int .i64 d.length] 45)
  have eT := E1.alloc (.cells #[.slice A2 d.length c2, .int .i64 d.length] 45)
  have belS := bel2.alloc (by omega) (.cells #[.slice A2 d.length c2, .int .i64 d.length] 45)
  obtain ⟨gs, hgs⟩ : ∃ gs, gs = w2.heap.size := ⟨_, rfl⟩
  obtain ⟨gt, hgt⟩ : ∃ gt, gt = w1.heap.size := ⟨_, rfl⟩
  rw [← hgs] at E2 rS bz2 ⊢
  rw [← hgt] at rT eT bz2 ⊢
  generalize w2.alloc (.cells #[.slice A2 d.length c2, .int .i64 d.length] 45) = wS at *
  have hzS := E2.lt
  have hBS : gs ≤ wS.heap.size := by omega
  clear r2 r12 E1 bel2 hgs hgt bz
  -- REGIONS
  rw [show d.length + min K (d.length - d.length) = d.length by omega] at CA
  replace rS := rS.more hBS
  replace rT := rT.more (show gt ≤ wS.heap.size by omega)
  have hB9 : wS.heap.size ≤ wS.heap.size := Nat.le_refl _
  have hz9 : gs < wS.heap.size := E2.lt
  have ne1 : ¬ gs = wS.heap.size := by omega
  have ne2 : ¬ wS.heap.size = gs := by omega
  have s0 := E2.cell 0
  have s1 := E2.cell 1
  go_cut [12, 13] (fun sp sq wx => ∃ g A3, sp = .pointer (some ⟨g, 0, none⟩) ∧ sq = .int .i64 0 ∧ Blk wx g 45 #[.slice A3 d.length d.length, .int .i64 d.length] ∧ Reads wx wx.heap.size 1 A3 d.length ((d.take d.length).map (Value.int .u8)) ∧ Fresh wS.heap.size A3 ∧ wS.heap.size ≤ g ∧ Below wS.heap.size wS wx)
  case first =>
    go_region_held3 (fun W => W.cell? ⟨gs, 0, none⟩ = some (.slice A2 d.length c2) ∧ W.cell? ⟨gs, 1, none⟩ = some (.int .i64 d.length)) (go_keep)
      (first
        | (go_at_call 17; refine (P1 _).out.mono ?_; rintro e w' ⟨rfl, rfl⟩)
        | (go_at_call 22; refine (CA.out _ _ (by first | exact rS.drew | exact (rS.alloc (Nat.le_refl _) _).drew | exact rS.drew.alloc (by simp) _) (by simp)).mono ?_; rintro e w3 ⟨A3, rfl, r3, hF, b3⟩; have eN : Blk w3 wS.heap.size 45 #[.slice none 0 0, .int .i64 0] := (by first | exact ((Blk.new wS 45 #[.slice none 0 0, .int .i64 0]).drew).below b3 (by simp) | exact (Blk.new wS.drew 45 #[.slice none 0 0, .int .i64 0]).below b3 (by simp)); have hbW : Below wS.heap.size wS w3 := (by first | exact (Below.refl _ _).drew.trans (b3.mono (by simp)) | exact ((Below.refl _ _).alloc (Nat.le_refl _) _).drew.trans (b3.mono (by simp)) | exact ((Below.refl _ _).drew.alloc (by simp) _).trans (b3.mono (by simp))); have fN := eN.frozen; have zN := eN.lt; have y0 := eN.cell 0; have y1 := eN.cell 1; have hF1 : Fresh (wS.heap.size + 1) A3 := (by simpa using hF); have p0 := (hbW.cell (p := ⟨gs, 0, none⟩) hz9).trans s0; have p1 := (hbW.cell (p := ⟨gs, 1, none⟩) hz9).trans s1; clear b3)
        | (go_at_call 22; refine (CA.out _ _ (by first | exact rS.drew | exact (rS.alloc (Nat.le_refl _) _).drew | exact rS.drew.alloc (by simp) _) (by simp)).mono ?_; rintro e w3 ⟨A3, rfl, r3, hF, b3⟩; have hbW : Below wS.heap.size wS w3 := (by first | exact (Below.refl _ _).drew.trans (b3.mono (by simp)) | exact ((Below.refl _ _).alloc (Nat.le_refl _) _).drew.trans (b3.mono (by simp)) | exact ((Below.refl _ _).drew.alloc (by simp) _).trans (b3.mono (by simp))); have p0 := (hbW.cell (p := ⟨gs, 0, none⟩) hz9).trans s0; have p1 := (hbW.cell (p := ⟨gs, 1, none⟩) hz9).trans s1; clear b3))
    all_goals
      go_wp2_with fail
      go_meet
      first
        | exact ⟨wS.heap.size, A3, rfl, rfl, (eN.set_ 0 _).set_ 1 _, ((r3.other hF1 (by simp) _).other hF1 (by simp) _).more (by simp), fun ad h => Nat.le_of_succ_le (hF1 ad h), Nat.le_refl _, (hbW.setCell (Nat.le_refl _) _).setCell (Nat.le_refl _) _⟩
        | exact ⟨w3.heap.size, A3, rfl, rfl, Blk.new _ _ _, r3.alloc (Nat.le_refl _) _ |>.more (by simp), fun ad h => hF ad h, hbW.size, hbW.alloc hbW.size _⟩
  case rest =>
    obtain ⟨ga, A3, rfl, rfl, eA, rA, _, hga, hb⟩ := hcut
    replace eT := eT.below hb eT.lt
    replace E2 := E2.below hb E2.lt
    replace rS := (rS.below hb).more hb.size
    replace rT := (rT.below hb).more hb.size
    replace belS := belS.trans (hb.mono belS.size)
    clear hb s0 s1 ne1 ne2 hB9 hz9 hBS CA hzS hga
    obtain ⟨m2, hm2'⟩ : ∃ m, 0 + min K (d.length - 0) = m := ⟨_, rfl⟩
    rw [hm2'] at CB
    have HM2 := Lib.hid hm2'
    clear hm2'
    go_wp2_with fail
    have hB9 : wc.heap.size ≤ wc.heap.size := Nat.le_refl _
    have hz9 : gt < wc.heap.size := eT.lt
    have ne1 : ¬ gt = wc.heap.size := by omega
    have ne2 : ¬ wc.heap.size = gt := by omega
    have s0 := eT.cell 0
    have s1 := eT.cell 1
    go_cut [14, 15] (fun sp sq wx => ∃ g A3, sp = .pointer (some ⟨g, 0, none⟩) ∧ sq = .int .i64 0 ∧ Blk wx g 45 #[.slice A3 m2 m2, .int .i64 m2] ∧ Reads wx wx.heap.size 1 A3 m2 ((d.take m2).map (Value.int .u8)) ∧ Fresh wc.heap.size A3 ∧ wc.heap.size ≤ g ∧ Below wc.heap.size wc wx)
    case first =>
      go_region_held3 (fun W => W.cell? ⟨gt, 0, none⟩ = some (.slice A1 d.length c1) ∧ W.cell? ⟨gt, 1, none⟩ = some (.int .i64 0)) (go_keep)
        (first
          | (go_at_call 17; refine (P1 _).out.mono ?_; rintro e w' ⟨rfl, rfl⟩)
          | (go_at_call 22; refine (CB.out _ _ (by first | exact rT.drew | exact (rT.alloc (Nat.le_refl _) _).drew | exact rT.drew.alloc (by simp) _) (by simp)).mono ?_; rintro e w3 ⟨A3, rfl, r3, hF, b3⟩; have eN : Blk w3 wc.heap.size 45 #[.slice none 0 0, .int .i64 0] := (by first | exact ((Blk.new wc 45 #[.slice none 0 0, .int .i64 0]).drew).below b3 (by simp) | exact (Blk.new wc.drew 45 #[.slice none 0 0, .int .i64 0]).below b3 (by simp)); have hbW : Below wc.heap.size wc w3 := (by first | exact (Below.refl _ _).drew.trans (b3.mono (by simp)) | exact ((Below.refl _ _).alloc (Nat.le_refl _) _).drew.trans (b3.mono (by simp)) | exact ((Below.refl _ _).drew.alloc (by simp) _).trans (b3.mono (by simp))); have fN := eN.frozen; have zN := eN.lt; have y0 := eN.cell 0; have y1 := eN.cell 1; have hF1 : Fresh (wc.heap.size + 1) A3 := (by simpa using hF); have p0 := (hbW.cell (p := ⟨gt, 0, none⟩) hz9).trans s0; have p1 := (hbW.cell (p := ⟨gt, 1, none⟩) hz9).trans s1; clear b3)
          | (go_at_call 22; refine (CB.out _ _ (by first | exact rT.drew | exact (rT.alloc (Nat.le_refl _) _).drew | exact rT.drew.alloc (by simp) _) (by simp)).mono ?_; rintro e w3 ⟨A3, rfl, r3, hF, b3⟩; have hbW : Below wc.heap.size wc w3 := (by first | exact (Below.refl _ _).drew.trans (b3.mono (by simp)) | exact ((Below.refl _ _).alloc (Nat.le_refl _) _).drew.trans (b3.mono (by simp)) | exact ((Below.refl _ _).drew.alloc (by simp) _).trans (b3.mono (by simp))); have p0 := (hbW.cell (p := ⟨gt, 0, none⟩) hz9).trans s0; have p1 := (hbW.cell (p := ⟨gt, 1, none⟩) hz9).trans s1; clear b3))
      all_goals
        go_wp2_with fail
        go_meet
        first
          | exact ⟨wc.heap.size, A3, rfl, rfl, (eN.set_ 0 _).set_ 1 _, ((r3.other hF1 (by simp) _).other hF1 (by simp) _).more (by simp), fun ad h => Nat.le_of_succ_le (hF1 ad h), Nat.le_refl _, (hbW.setCell (Nat.le_refl _) _).setCell (Nat.le_refl _) _⟩
          | exact ⟨w3.heap.size, A3, rfl, rfl, Blk.new _ _ _, r3.alloc (Nat.le_refl _) _ |>.more (by simp), fun ad h => hF ad h, hbW.size, hbW.alloc hbW.size _⟩
    case rest =>
      obtain ⟨gb, A4, rfl, rfl, eB, rB, _, hgb, hb⟩ := hcut
      replace eT := eT.below hb eT.lt
      replace E2 := E2.below hb E2.lt
      replace eA := eA.below hb eA.lt
      replace rS := (rS.below hb).more hb.size
      replace rT := (rT.below hb).more hb.size
      replace rA := (rA.below hb).more hb.size
      replace belS := belS.trans (hb.mono belS.size)
      clear hb s0 s1 ne1 ne2 hB9 hz9 CB hgb
      have hm2d : m2 ≤ d.length := by have := HM2.out; omega
      have CC := Lib.hid (fun W B hr hB => crash_ok A4 m2 m2 B m2 L (d.take m2) W hr (Nat.le_refl _) (by omega) hB (Nat.le_refl _) (by omega))
      rw [show m2 + min L (m2 - m2) = m2 by omega] at CC
      go_wp2_with fail
      have hB9 : wc.heap.size ≤ wc.heap.size := Nat.le_refl _
      have hz9 : gb < wc.heap.size := eB.lt
      have ne1 : ¬ gb = wc.heap.size := by omega
      have ne2 : ¬ wc.heap.size = gb := by omega
      have s0 := eB.cell 0
      have s1 := eB.cell 1
      go_cut [16, 17] (fun sp sq wx => ∃ g A3, sp = .pointer (some ⟨g, 0, none⟩) ∧ sq = .int .i64 0 ∧ Blk wx g 45 #[.slice A3 m2 m2, .int .i64 m2] ∧ Reads wx wx.heap.size 1 A3 m2 (((d.take m2).take m2).map (Value.int .u8)) ∧ Fresh wc.heap.size A3 ∧ wc.heap.size ≤ g ∧ Below wc.heap.size wc wx)
      case first =>
        go_region_held3 (fun W => W.cell? ⟨gb, 0, none⟩ = some (.slice A4 m2 m2) ∧ W.cell? ⟨gb, 1, none⟩ = some (.int .i64 m2)) (go_keep)
          (first
            | (go_at_call 17; refine (P2 _).out.mono ?_; rintro e w' ⟨rfl, rfl⟩)
            | (go_at_call 22; refine (CC.out _ _ (by first | exact rB.drew | exact (rB.alloc (Nat.le_refl _) _).drew | exact rB.drew.alloc (by simp) _) (by simp)).mono ?_; rintro e w3 ⟨A3, rfl, r3, hF, b3⟩; have eN : Blk w3 wc.heap.size 45 #[.slice none 0 0, .int .i64 0] := (by first | exact ((Blk.new wc 45 #[.slice none 0 0, .int .i64 0]).drew).below b3 (by simp) | exact (Blk.new wc.drew 45 #[.slice none 0 0, .int .i64 0]).below b3 (by simp)); have hbW : Below wc.heap.size wc w3 := (by first | exact (Below.refl _ _).drew.trans (b3.mono (by simp)) | exact ((Below.refl _ _).alloc (Nat.le_refl _) _).drew.trans (b3.mono (by simp)) | exact ((Below.refl _ _).drew.alloc (by simp) _).trans (b3.mono (by simp))); have fN := eN.frozen; have zN := eN.lt; have y0 := eN.cell 0; have y1 := eN.cell 1; have hF1 : Fresh (wc.heap.size + 1) A3 := (by simpa using hF); have p0 := (hbW.cell (p := ⟨gb, 0, none⟩) hz9).trans s0; have p1 := (hbW.cell (p := ⟨gb, 1, none⟩) hz9).trans s1; clear b3)
            | (go_at_call 22; refine (CC.out _ _ (by first | exact rB.drew | exact (rB.alloc (Nat.le_refl _) _).drew | exact rB.drew.alloc (by simp) _) (by simp)).mono ?_; rintro e w3 ⟨A3, rfl, r3, hF, b3⟩; have hbW : Below wc.heap.size wc w3 := (by first | exact (Below.refl _ _).drew.trans (b3.mono (by simp)) | exact ((Below.refl _ _).alloc (Nat.le_refl _) _).drew.trans (b3.mono (by simp)) | exact ((Below.refl _ _).drew.alloc (by simp) _).trans (b3.mono (by simp))); have p0 := (hbW.cell (p := ⟨gb, 0, none⟩) hz9).trans s0; have p1 := (hbW.cell (p := ⟨gb, 1, none⟩) hz9).trans s1; clear b3))
        all_goals
          go_wp2_with fail
          go_meet
          first
            | exact ⟨wc.heap.size, A3, rfl, rfl, (eN.set_ 0 _).set_ 1 _, ((r3.other hF1 (by simp) _).other hF1 (by simp) _).more (by simp), fun ad h => Nat.le_of_succ_le (hF1 ad h), Nat.le_refl _, (hbW.setCell (Nat.le_refl _) _).setCell (Nat.le_refl _) _⟩
            | exact ⟨w3.heap.size, A3, rfl, rfl, Blk.new _ _ _, r3.alloc (Nat.le_refl _) _ |>.more (by simp), fun ad h => hF ad h, hbW.size, hbW.alloc hbW.size _⟩
      case rest =>
        obtain ⟨gc, A5, rfl, rfl, eC, rC, _, hgc, hb⟩ := hcut
        replace eT := eT.below hb eT.lt
        replace E2 := E2.below hb E2.lt
        replace eA := eA.below hb eA.lt
        replace eB := eB.below hb eB.lt
        replace rS := (rS.below hb).more hb.size
        replace rT := (rT.below hb).more hb.size
        replace rA := (rA.below hb).more hb.size
        replace rB := (rB.below hb).more hb.size
        replace belS := belS.trans (hb.mono belS.size)
        clear hb s0 s1 ne1 ne2 hB9 hz9 CC hgc
        rw [List.take_of_length_le (Nat.le_refl _)] at rA
        rw [List.take_of_length_le (by rw [List.length_take]; omega)] at rC
        generalize d.take m2 = dm at *
        have cvT := fun q => conv_reads (P := Try.prog) (rT.drewN q) 31 5 9 Try.underlying31 Try.underlying5 Try.underlying9 c1
        have cvA := fun q => conv_reads (P := Try.prog) (rA.drewN q) 31 5 9 Try.underlying31 Try.underlying5 Try.underlying9 d.length
        have cvB := fun q => conv_reads (P := Try.prog) (rB.drewN q) 31 5 9 Try.underlying31 Try.underlying5 Try.underlying9 m2
        have cvC := fun q => conv_reads (P := Try.prog) (rC.drewN q) 31 5 9 Try.underlying31 Try.underlying5 Try.underlying9 m2
        have t0 := eT.cell 0
        have a0 := eA.cell 0
        have b0 := eB.cell 0
        have b1 := eB.cell 1
        have c0 := eC.cell 0
        clear eT eA eB eC E2 rS rT rA rB rC
        have hlen : (¬ 0 < (rs.length : Int) ∧ ¬ 0 < (d.length : Int)) ∨ (0 < (rs.length : Int) ∧ 0 < (d.length : Int)) := by
          rw [← HD.out]
          rcases rs with _ | ⟨r, rs⟩
          · left; simp [frames]
          · right
            have := frameOf_length (recBytes r)
            simp only [frames, List.flatMap_cons, List.length_append, List.length_cons]
            omega
        have hmin := HM2.out
        clear P2 HD HRL h
        go_upto_region 6 with fail
        have HLEN := Lib.hid hlen
        clear hlen
        by_cases hKd : (d.length : Int) < (K : Int)
        · obtain rfl : m2 = d.length := by omega
          clear hmin HM2
          go_quiet ((go_at_call 17; exact Calls.quiet_of_same ((P1' _).out)))
          go_wp2
          go_ret
          exact ⟨ret_true (by simp; have := HLEN.out; omega), below_drewN belS _⟩
        · obtain rfl : m2 = K := by omega
          clear hmin HM2
          go_quiet ((go_at_call 17; exact Calls.quiet_of_same ((P1' _).out)))
          go_wp2
          go_ret
          exact ⟨ret_true (by simp; have := HLEN.out; omega), below_drewN belS _⟩

end Go.Proofs.Ytcgamaponeglhaa
