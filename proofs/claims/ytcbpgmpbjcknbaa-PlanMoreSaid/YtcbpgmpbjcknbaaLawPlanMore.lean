/- PlanMore: the walk. -/
import Derived.Test.YtcbpgmpbjcknbaaLawPlanLess
import Derived.Laws.StructEq
namespace Go.Proofs.Ytcbpgmpbjcknbaa
open Go.RowKit

theorem pl_same (a b c : Int) (w : World) : (binOp .neq 35 (.agg #[.int .i64 a, .int .i64 b, .int .i64 c]) (.agg #[.int .i64 a, .int .i64 b, .int .i64 c])).run Try.prog w = .ok (.bool false) w := by
  have h1 : Try.prog.underlying 35 = some (.struct (Try.prog.fieldsOf 35)) := by kernel_rfl
  have h2 : Try.prog.stoodInHeld 35 = false := by kernel_rfl
  rw [run_neq_struct, run_equalIn_struct _ _ _ _ _ h1 h2]
  simp [go_sem]

set_option maxRecDepth 100000 in
set_option maxHeartbeats 8000000 in
theorem planMore_walk (A : Option Addr) (n c : Nat) (rows : List (List Int)) (nn xa xb : Int) (w : World) (h : IsRows 2 16 w A n c rows) (hnn : Is64 nn) (hxa : Is64 xa) (hxb : Is64 xb) :
    Calls Try.prog 4 #[.slice A n c, .int .i64 nn, .int .i64 xa, .int .i64 xb] w fun e w' => e = .returned (.bool true) ∧ Below w.heap.size w w' := by
  obtain ⟨hl, hnc, hcb, hr, hs⟩ := h
  obtain ⟨hn1, hn2⟩ := hnn
  obtain ⟨hm1, hm2⟩ := hxa
  obtain ⟨hm3, hm4⟩ := hxb
  have p0 := pick_lo nn 5 (by omega)
  have p1 := pick_hi nn 5 (by omega)
  have p2 := pick_lo xa 5 (by omega)
  have p3 := pick_hi xa 5 (by omega)
  have PN := Lib.hid (fun W => picked_any nn 5 W hn1 hn2 (by omega) (by omega))
  have PA := Lib.hid (fun W => picked_any xa 5 W hm1 hm2 (by omega) (by omega))
  generalize pick nn 5 = P at *
  generalize pick xa 5 = Q at *
  obtain ⟨X, rfl⟩ := Int.eq_ofNat_of_zero_le p2
  have p4 := pick_lo xb ((X : Int) + 1) (by omega)
  have p5 := pick_hi xb ((X : Int) + 1) (by omega)
  have PB := Lib.hid (fun W => picked_any xb ((X : Int) + 1) W hm3 hm4 (by omega) (by omega))
  generalize pick xb ((X : Int) + 1) = R at *
  obtain ⟨Y, rfl⟩ := Int.eq_ofNat_of_zero_le p4
  have hYX : Y ≤ X := by omega
  have i2 : IntKind.i64.wrap ((X : Int) + 1) = (X : Int) + 1 := IntWalk.i64_in _ (by omega)
  obtain ⟨N, hN⟩ : ∃ N : Nat, (N : Int) = 1 + P := ⟨(1 + P).toNat, by omega⟩
  have i1 : IntKind.i64.wrap (1 + P) = (N : Int) := by rw [hN]; exact IntWalk.i64_in _ (by omega)
  have hN1 : 1 ≤ N := by omega
  have hN5 : N ≤ 5 := by omega
  have hX : X ≤ 4 := by omega
  have hY : Y ≤ 4 := by omega
  obtain ⟨L, hL⟩ : ∃ L, L = min n 4 := ⟨_, rfl⟩
  have hL4 : L ≤ 4 := by omega
  have HOK := Lib.hid (ldOk_src rows N L hL4 hN1 hN5)
  have CL := Lib.hid (fun W hr hb => loads_ok A n c w.heap.size N rows W hl hs hr hb hN1 hN5)
  rw [← hL] at CL
  clear hN hL hl hs p0 p1 p2 p3 p4 p5 hnc hcb
  obtain ⟨k, hk⟩ : ∃ k, k = kOf rows := ⟨_, rfl⟩
  obtain ⟨n0, hn0⟩ : ∃ n0, n0 = nOf rows N := ⟨_, rfl⟩
  rw [← hk, ← hn0] at CL HOK
  clear hk hn0
  go_enter Try.func4, Try.ntmps4
  go_wp2_with fail
  refine (PN.out _).mono ?_
  rintro e w' ⟨rfl, rfl⟩
  go_wp2_with fail
  refine (CL.out _ hr (Nat.le_refl _)).mono ?_
  rintro e w1 ⟨v, rfl, o1, b1⟩
  obtain ⟨A8, c8, rfl, hc8, NW⟩ := own_now o1
  have bel1 : Below w.heap.size w w1 := b1
  have CX := Lib.hid (fun W hr hb => bal_ok A8 L c8 w1.heap.size qOf n0 k N X W HOK.out hc8 hr hb hX)
  have CY := Lib.hid (fun W hr hb => bal_ok A8 L c8 w1.heap.size qOf n0 k N Y W HOK.out hc8 hr hb hY)
  have CS := Lib.hid (fun W hr hb => spread_ok A8 L c8 w1.heap.size qOf n0 k N W HOK.out hc8 hr hb)
  have CZ := Lib.hid (fun W hr hb => busy_ok A8 L c8 w1.heap.size qOf n0 k N W HOK.out hc8 hr hb)
  have hpl := runP_len qOf k L N X n0 (fun _ => false)
  have htk := runP_take qOf k L N Y X n0 (fun _ => false) hYX
  have hnw := NW.reads
  obtain ⟨ps, hps⟩ : ∃ ps, runP qOf k L N X n0 (fun _ => false) = ps := ⟨_, rfl⟩
  rw [hps] at hpl htk
  have HPS := Lib.hid hps
  have HTK := Lib.hid htk
  clear o1 b1 CL hr PN NW hps htk
  go_wp2_with fail
  refine (PA.out _).mono ?_
  rintro e w' ⟨rfl, rfl⟩
  go_wp2_with fail
  refine (PB.out _).mono ?_
  rintro e w' ⟨rfl, rfl⟩
  clear PA PB
  go_wp2_with fail
  refine (CX.out _ hnw (Nat.le_refl _)).mono ?_
  rintro e w2 ⟨v2, rfl, o2, b2⟩
  rw [HPS.out] at o2
  obtain ⟨A9, c9, rfl, hc9, _⟩ := own_shape o2
  have R9 := Reads.of_own o2
  have hnw2 := hnw.below b2
  have bel2 := bel1.trans (b2.mono bel1.size)
  have hs2 := b2.size
  clear bel1 b2 o2 hnw CX
  go_wp2_with fail
  refine (CY.out _ hnw2 hs2).mono ?_
  rintro e w3 ⟨v3, rfl, o3, b3⟩
  rw [HTK.out] at o3
  obtain ⟨T, hT⟩ : ∃ T, (ps.take Y).length = T := ⟨_, rfl⟩
  have HTM := Lib.hid (show T = min ps.length Y by rw [← hT, List.length_take]; omega)
  rw [hT] at o3
  have HT := Lib.hid hT
  clear hT
  obtain ⟨A10, c10, rfl, hc10, _⟩ := own_shape o3
  have R10 := Reads.of_own o3
  have R93 := R9.below b3
  have hnw3 := hnw2.below (b3.mono hs2)
  have bel3 := bel2.trans (b3.mono bel2.size)
  have hs3 := b3.size
  clear R9 bel2 b3 o3 hnw2 CY
  go_wp2_with fail
  refine (CS.out _ hnw3 (by omega)).mono ?_
  rintro e w4 ⟨rfl, b4⟩
  have R94 := (R93.below (b4.mono hs3)).more (B' := w4.heap.size) (Nat.le_trans hs3 b4.size)
  have R104 := (R10.below b4).more (B' := w4.heap.size) b4.size
  have hnw4 := hnw3.below (b4.mono (Nat.le_trans hs2 hs3))
  have bel4 := bel3.trans (b4.mono bel3.size)
  have hs4 := b4.size
  clear R93 R10 bel3 b4 hnw3 CS
  have hsu := Lib.hid (spread_unlike (sumTo n0 k L) N hN1)
  have hu2 := Lib.hid (fun u => unlike_two (h := sumTo n0 k L) (N := N) u)
  obtain ⟨sp, hsp⟩ : ∃ sp, spread (sumTo n0 k L) N = sp := ⟨_, rfl⟩
  rw [hsp] at hsu ⊢
  clear hsp
  have hcase : (T = Y ∧ Y < ps.length) ∨ (T = ps.length ∧ ¬ Y < ps.length) := by have := HTM.out; omega
  rcases hcase with ⟨hTe, hY1⟩ | ⟨hTe, hY1⟩
  · subst hTe
    have hY2 : (T : Int) < (ps.length : Int) := by omega
    by_cases hN2 : N = 1
    · have hNI : ¬ (1 : Int) < (N : Int) := by omega
      have hs0 : ¬ 0 < sp := fun h => by have := hu2.out (hsu.out.1 h); omega
      clear hN2
      have hne := pl_same
      go_wp2_with fail
      go_loopw [19] (fun s19 wr => ∃ i : Nat, i ≤ T ∧ s19 = .int .i64 i ∧ Below w4.heap.size w4 wr) (fun s19 _ => T - (intOf s19).toNat)
      case atStart => exact ⟨0, by omega, rfl, Below.refl _ _⟩
      case round =>
        obtain ⟨i, hi, rfl, bl⟩ := hrel
        by_cases hlt : i < T
        · have hlp : i < ps.length := by have := HTM.out; omega
          obtain ⟨p, hp⟩ : ∃ p, ps[i]? = some p := ⟨_, List.getElem?_eq_getElem hlp⟩
          have hp2 : (ps.take T)[i]? = some p := by rw [List.getElem?_take, if_pos (by have := HTM.out; omega)]; exact hp
          obtain ⟨x, y, z⟩ := p
          obtain ⟨b1, f1, hA1, hb1, z0, z1, z2⟩ := plAt (R94.below bl) rfl hlp hp
          obtain ⟨b2, f2, hA2, hb2, y0, y1, y2⟩ := plAt (R104.below bl) HT.out hlt hp2
          subst hA1
          subst hA2
          have hsz := bl.size
          have l1 : b1 < wr.heap.size := by omega
          have l2 : b2 < wr.heap.size := by omega
          have hI : (i : Int) < (T : Int) := by omega
          have hI2 : (i : Int) < (ps.length : Int) := by omega
          have i3 : IntKind.i64.wrap ((i : Int) + 1) = (i : Int) + 1 := IntWalk.i64_in _ (by omega)
          clear hp hp2 HT R94 R104
          go_wp2_with fail
          go_quiet (fail)
          go_wp2_with fail
          go_roundw
          case rel => exact ⟨i + 1, by omega, by go_num, below_drewN bl nq⟩
          case measure => simp [intOf]; omega
        · obtain hE : i = T := by omega
          have hI : ¬ (i : Int) < (T : Int) := by omega
          have hfin := bel4.trans (bl.mono bel4.size)
          clear hE
          go_wp2_with fail
          go_ret
          exact ⟨ret_true (by simp), hfin⟩
    · have hNI : (1 : Int) < (N : Int) := by omega
      clear hN2
      go_wp2_with fail
      refine (CZ.out _ hnw4 (by omega)).mono ?_
      rintro e w5 ⟨bb, rfl, hbb, b5⟩
      have R95 := (R94.below b5).more (B' := w5.heap.size) b5.size
      have R105 := (R104.below b5).more (B' := w5.heap.size) b5.size
      have bel5 := bel4.trans (b5.mono bel4.size)
      clear R94 R104 bel4 b5 hnw4
      cases hbc : bb with
      | true =>
        have hs0 : 0 < sp := hsu.out.2 (hbb.1 hbc)
        clear hbb hbc
        have hne := pl_same
        go_wp2_with fail
        go_loopw [19] (fun s19 wr => ∃ i : Nat, i ≤ T ∧ s19 = .int .i64 i ∧ Below w5.heap.size w5 wr) (fun s19 _ => T - (intOf s19).toNat)
        case atStart => exact ⟨0, by omega, rfl, Below.refl _ _⟩
        case round =>
          obtain ⟨i, hi, rfl, bl⟩ := hrel
          by_cases hlt : i < T
          · have hlp : i < ps.length := by have := HTM.out; omega
            obtain ⟨p, hp⟩ : ∃ p, ps[i]? = some p := ⟨_, List.getElem?_eq_getElem hlp⟩
            have hp2 : (ps.take T)[i]? = some p := by rw [List.getElem?_take, if_pos (by have := HTM.out; omega)]; exact hp
            obtain ⟨x, y, z⟩ := p
            obtain ⟨b1, f1, hA1, hb1, z0, z1, z2⟩ := plAt (R95.below bl) rfl hlp hp
            obtain ⟨b2, f2, hA2, hb2, y0, y1, y2⟩ := plAt (R105.below bl) HT.out hlt hp2
            subst hA1
            subst hA2
            have hsz := bl.size
            have l1 : b1 < wr.heap.size := by omega
            have l2 : b2 < wr.heap.size := by omega
            have hI : (i : Int) < (T : Int) := by omega
            have hI2 : (i : Int) < (ps.length : Int) := by omega
            have i3 : IntKind.i64.wrap ((i : Int) + 1) = (i : Int) + 1 := IntWalk.i64_in _ (by omega)
            clear hp hp2 HT R95 R105
            go_wp2_with fail
            go_quiet (fail)
            go_wp2_with fail
            go_roundw
            case rel => exact ⟨i + 1, by omega, by go_num, below_drewN bl nq⟩
            case measure => simp [intOf]; omega
          · obtain hE : i = T := by omega
            have hI : ¬ (i : Int) < (T : Int) := by omega
            have hfin := bel5.trans (bl.mono bel5.size)
            clear hE
            go_wp2_with fail
            go_ret
            exact ⟨ret_true (by simp), hfin⟩
      | false =>
        have hs0 : ¬ 0 < sp := fun h => by have := hbb.2 (hsu.out.1 h); rw [hbc] at this; cases this
        clear hbb hbc
        have hne := pl_same
        go_wp2_with fail
        go_loopw [19] (fun s19 wr => ∃ i : Nat, i ≤ T ∧ s19 = .int .i64 i ∧ Below w5.heap.size w5 wr) (fun s19 _ => T - (intOf s19).toNat)
        case atStart => exact ⟨0, by omega, rfl, Below.refl _ _⟩
        case round =>
          obtain ⟨i, hi, rfl, bl⟩ := hrel
          by_cases hlt : i < T
          · have hlp : i < ps.length := by have := HTM.out; omega
            obtain ⟨p, hp⟩ : ∃ p, ps[i]? = some p := ⟨_, List.getElem?_eq_getElem hlp⟩
            have hp2 : (ps.take T)[i]? = some p := by rw [List.getElem?_take, if_pos (by have := HTM.out; omega)]; exact hp
            obtain ⟨x, y, z⟩ := p
            obtain ⟨b1, f1, hA1, hb1, z0, z1, z2⟩ := plAt (R95.below bl) rfl hlp hp
            obtain ⟨b2, f2, hA2, hb2, y0, y1, y2⟩ := plAt (R105.below bl) HT.out hlt hp2
            subst hA1
            subst hA2
            have hsz := bl.size
            have l1 : b1 < wr.heap.size := by omega
            have l2 : b2 < wr.heap.size := by omega
            have hI : (i : Int) < (T : Int) := by omega
            have hI2 : (i : Int) < (ps.length : Int) := by omega
            have i3 : IntKind.i64.wrap ((i : Int) + 1) = (i : Int) + 1 := IntWalk.i64_in _ (by omega)
            clear hp hp2 HT R95 R105
            go_wp2_with fail
            go_quiet (fail)
            go_wp2_with fail
            go_roundw
            case rel => exact ⟨i + 1, by omega, by go_num, below_drewN bl nq⟩
            case measure => simp [intOf]; omega
          · obtain hE : i = T := by omega
            have hI : ¬ (i : Int) < (T : Int) := by omega
            have hfin := bel5.trans (bl.mono bel5.size)
            clear hE
            go_wp2_with fail
            go_ret
            exact ⟨ret_true (by simp), hfin⟩
  · subst hTe
    have hY2 : ¬ (Y : Int) < (ps.length : Int) := by omega
    by_cases hN2 : N = 1
    · have hNI : ¬ (1 : Int) < (N : Int) := by omega
      have hs0 : ¬ 0 < sp := fun h => by have := hu2.out (hsu.out.1 h); omega
      clear hN2
      have hne := pl_same
      go_wp2_with fail
      go_loopw [19] (fun s19 wr => ∃ i : Nat, i ≤ ps.length ∧ s19 = .int .i64 i ∧ Below w4.heap.size w4 wr) (fun s19 _ => ps.length - (intOf s19).toNat)
      case atStart => exact ⟨0, by omega, rfl, Below.refl _ _⟩
      case round =>
        obtain ⟨i, hi, rfl, bl⟩ := hrel
        by_cases hlt : i < ps.length
        · have hlp : i < ps.length := by have := HTM.out; omega
          obtain ⟨p, hp⟩ : ∃ p, ps[i]? = some p := ⟨_, List.getElem?_eq_getElem hlp⟩
          have hp2 : (ps.take Y)[i]? = some p := by rw [List.getElem?_take, if_pos (by have := HTM.out; omega)]; exact hp
          obtain ⟨x, y, z⟩ := p
          obtain ⟨b1, f1, hA1, hb1, z0, z1, z2⟩ := plAt (R94.below bl) rfl hlp hp
          obtain ⟨b2, f2, hA2, hb2, y0, y1, y2⟩ := plAt (R104.below bl) HT.out hlt hp2
          subst hA1
          subst hA2
          have hsz := bl.size
          have l1 : b1 < wr.heap.size := by omega
          have l2 : b2 < wr.heap.size := by omega
          have hI : (i : Int) < (ps.length : Int) := by omega
          have hI2 : (i : Int) < (ps.length : Int) := by omega
          have i3 : IntKind.i64.wrap ((i : Int) + 1) = (i : Int) + 1 := IntWalk.i64_in _ (by omega)
          clear hp hp2 HT R94 R104
          go_wp2_with fail
          go_quiet (fail)
          go_wp2_with fail
          go_roundw
          case rel => exact ⟨i + 1, by omega, by go_num, below_drewN bl nq⟩
          case measure => simp [intOf]; omega
        · obtain hE : i = ps.length := by omega
          have hI : ¬ (i : Int) < (ps.length : Int) := by omega
          have hfin := bel4.trans (bl.mono bel4.size)
          clear hE
          go_wp2_with fail
          go_ret
          exact ⟨ret_true (by simp), hfin⟩
    · have hNI : (1 : Int) < (N : Int) := by omega
      clear hN2
      go_wp2_with fail
      refine (CZ.out _ hnw4 (by omega)).mono ?_
      rintro e w5 ⟨bb, rfl, hbb, b5⟩
      have R95 := (R94.below b5).more (B' := w5.heap.size) b5.size
      have R105 := (R104.below b5).more (B' := w5.heap.size) b5.size
      have bel5 := bel4.trans (b5.mono bel4.size)
      clear R94 R104 bel4 b5 hnw4
      cases hbc : bb with
      | true =>
        have hs0 : 0 < sp := hsu.out.2 (hbb.1 hbc)
        clear hbb hbc
        have hne := pl_same
        go_wp2_with fail
        go_loopw [19] (fun s19 wr => ∃ i : Nat, i ≤ ps.length ∧ s19 = .int .i64 i ∧ Below w5.heap.size w5 wr) (fun s19 _ => ps.length - (intOf s19).toNat)
        case atStart => exact ⟨0, by omega, rfl, Below.refl _ _⟩
        case round =>
          obtain ⟨i, hi, rfl, bl⟩ := hrel
          by_cases hlt : i < ps.length
          · have hlp : i < ps.length := by have := HTM.out; omega
            obtain ⟨p, hp⟩ : ∃ p, ps[i]? = some p := ⟨_, List.getElem?_eq_getElem hlp⟩
            have hp2 : (ps.take Y)[i]? = some p := by rw [List.getElem?_take, if_pos (by have := HTM.out; omega)]; exact hp
            obtain ⟨x, y, z⟩ := p
            obtain ⟨b1, f1, hA1, hb1, z0, z1, z2⟩ := plAt (R95.below bl) rfl hlp hp
            obtain ⟨b2, f2, hA2, hb2, y0, y1, y2⟩ := plAt (R105.below bl) HT.out hlt hp2
            subst hA1
            subst hA2
            have hsz := bl.size
            have l1 : b1 < wr.heap.size := by omega
            have l2 : b2 < wr.heap.size := by omega
            have hI : (i : Int) < (ps.length : Int) := by omega
            have hI2 : (i : Int) < (ps.length : Int) := by omega
            have i3 : IntKind.i64.wrap ((i : Int) + 1) = (i : Int) + 1 := IntWalk.i64_in _ (by omega)
            clear hp hp2 HT R95 R105
            go_wp2_with fail
            go_quiet (fail)
            go_wp2_with fail
            go_roundw
            case rel => exact ⟨i + 1, by omega, by go_num, below_drewN bl nq⟩
            case measure => simp [intOf]; omega
          · obtain hE : i = ps.length := by omega
            have hI : ¬ (i : Int) < (ps.length : Int) := by omega
            have hfin := bel5.trans (bl.mono bel5.size)
            clear hE
            go_wp2_with fail
            go_ret
            exact ⟨ret_true (by simp), hfin⟩
      | false =>
        have hs0 : ¬ 0 < sp := fun h => by have := hbb.2 (hsu.out.1 h); rw [hbc] at this; cases this
        clear hbb hbc
        have hne := pl_same
        go_wp2_with fail
        go_loopw [19] (fun s19 wr => ∃ i : Nat, i ≤ ps.length ∧ s19 = .int .i64 i ∧ Below w5.heap.size w5 wr) (fun s19 _ => ps.length - (intOf s19).toNat)
        case atStart => exact ⟨0, by omega, rfl, Below.refl _ _⟩
        case round =>
          obtain ⟨i, hi, rfl, bl⟩ := hrel
          by_cases hlt : i < ps.length
          · have hlp : i < ps.length := by have := HTM.out; omega
            obtain ⟨p, hp⟩ : ∃ p, ps[i]? = some p := ⟨_, List.getElem?_eq_getElem hlp⟩
            have hp2 : (ps.take Y)[i]? = some p := by rw [List.getElem?_take, if_pos (by have := HTM.out; omega)]; exact hp
            obtain ⟨x, y, z⟩ := p
            obtain ⟨b1, f1, hA1, hb1, z0, z1, z2⟩ := plAt (R95.below bl) rfl hlp hp
            obtain ⟨b2, f2, hA2, hb2, y0, y1, y2⟩ := plAt (R105.below bl) HT.out hlt hp2
            subst hA1
            subst hA2
            have hsz := bl.size
            have l1 : b1 < wr.heap.size := by omega
            have l2 : b2 < wr.heap.size := by omega
            have hI : (i : Int) < (ps.length : Int) := by omega
            have hI2 : (i : Int) < (ps.length : Int) := by omega
            have i3 : IntKind.i64.wrap ((i : Int) + 1) = (i : Int) + 1 := IntWalk.i64_in _ (by omega)
            clear hp hp2 HT R95 R105
            go_wp2_with fail
            go_quiet (fail)
            go_wp2_with fail
            go_roundw
            case rel => exact ⟨i + 1, by omega, by go_num, below_drewN bl nq⟩
            case measure => simp [intOf]; omega
          · obtain hE : i = ps.length := by omega
            have hI : ¬ (i : Int) < (ps.length : Int) := by omega
            have hfin := bel5.trans (bl.mono bel5.size)
            clear hE
            go_wp2_with fail
            go_ret
            exact ⟨ret_true (by simp), hfin⟩

end Go.Proofs.Ytcbpgmpbjcknbaa
