/- PlanLess: the walk. -/
import Derived.Test.YtcbpgmpbjcknbaaPlanLaw
namespace Go.Proofs.Ytcbpgmpbjcknbaa
open Go.RowKit

theorem plAt {w : World} {B n i : Nat} {A : Option Addr} {ps : List (Int × Int × Int)} {x y z : Int} (h : Reads w B 3 A n (plCells ps)) (hl : ps.length = n) (hi : i < n) (hp : ps[i]? = some (x, y, z)) :
    ∃ b off, A = some ⟨b, off, none⟩ ∧ b < B ∧ w.cell? ⟨b, off + i * 3, none⟩ = some (.int .i64 x) ∧ w.cell? ⟨b, off + i * 3 + 1, none⟩ = some (.int .i64 y) ∧ w.cell? ⟨b, off + i * 3 + 2, none⟩ = some (.int .i64 z) := by
  obtain ⟨b, off, rfl, hb, hc⟩ := h.plain (by omega) (by omega)
  have hat : ∀ j, j < 3 → (plCells ps)[i * 3 + j]? = some (.int .i64 (([x, y, z] : List Int).getD j 0)) := fun j hj => by
    unfold plCells
    rw [rowCells_at 3 _ (fun r hr => by obtain ⟨x, _, rfl⟩ := List.mem_map.1 hr; rfl) i j [x, y, z] (by rw [List.getElem?_map, hp]; rfl) hj]
    rcases (show j = 0 ∨ j = 1 ∨ j = 2 by omega) with rfl | rfl | rfl <;> rfl
  refine ⟨b, off, rfl, hb, ?_, ?_, ?_⟩
  · have := hc _ _ (hat 0 (by omega)); simpa using this
  · have := hc _ _ (hat 1 (by omega)); simpa [Nat.add_assoc] using this
  · have := hc _ _ (hat 2 (by omega)); simpa [Nat.add_assoc] using this
theorem false4 : (#[.bool false, .bool false, .bool false, .bool false] : Array Value) = bRow (fun _ => false) 4 := rfl

set_option maxRecDepth 100000 in
set_option maxHeartbeats 8000000 in
theorem planLess_walk (A : Option Addr) (n c : Nat) (rows : List (List Int)) (nn most : Int) (w : World) (h : IsRows 2 16 w A n c rows) (hnn : Is64 nn) (hmo : Is64 most) :
    Calls Try.prog 3 #[.slice A n c, .int .i64 nn, .int .i64 most] w fun e w' => e = .returned (.bool true) ∧ Below w.heap.size w w' := by
  obtain ⟨hl, hnc, hcb, hr, hs⟩ := h
  obtain ⟨hn1, hn2⟩ := hnn
  obtain ⟨hm1, hm2⟩ := hmo
  have p0 := pick_lo nn 5 (by omega)
  have p1 := pick_hi nn 5 (by omega)
  have p2 := pick_lo most 5 (by omega)
  have p3 := pick_hi most 5 (by omega)
  have PN := Lib.hid (fun W => picked_any nn 5 W hn1 hn2 (by omega) (by omega))
  have PM := Lib.hid (fun W => picked_any most 5 W hm1 hm2 (by omega) (by omega))
  generalize pick nn 5 = P at *
  generalize pick most 5 = Q at *
  obtain ⟨M, rfl⟩ := Int.eq_ofNat_of_zero_le p2
  obtain ⟨N, hN⟩ : ∃ N : Nat, (N : Int) = 1 + P := ⟨(1 + P).toNat, by omega⟩
  have i1 : IntKind.i64.wrap (1 + P) = (N : Int) := by rw [hN]; exact IntWalk.i64_in _ (by omega)
  have hN1 : 1 ≤ N := by omega
  have hN5 : N ≤ 5 := by omega
  have hM : M ≤ 4 := by omega
  obtain ⟨L, hL⟩ : ∃ L, L = min n 4 := ⟨_, rfl⟩
  have hL4 : L ≤ 4 := by omega
  have HOK := Lib.hid (ldOk_src rows N L hL4 hN1 hN5)
  have CL := Lib.hid (fun W hr hb => loads_ok A n c w.heap.size N rows W hl hs hr hb hN1 hN5)
  rw [← hL] at CL
  clear hN hL hl hs p0 p1 p2 p3 hnc hcb
  obtain ⟨k, hk⟩ : ∃ k, k = kOf rows := ⟨_, rfl⟩
  obtain ⟨n0, hn0⟩ : ∃ n0, n0 = nOf rows N := ⟨_, rfl⟩
  rw [← hk, ← hn0] at CL HOK
  clear hk hn0
  go_enter Try.func3, Try.ntmps3
  go_wp2_with fail
  refine (PN.out _).mono ?_
  rintro e w' ⟨rfl, rfl⟩
  go_wp2_with fail
  refine (CL.out _ hr (Nat.le_refl _)).mono ?_
  rintro e w1 ⟨v, rfl, o1, b1⟩
  obtain ⟨A8, c8, rfl, hc8, NW⟩ := own_now o1
  have bel1 : Below w.heap.size w w1 := b1
  have CB := Lib.hid (fun W hr hb => bal_ok A8 L c8 w1.heap.size qOf n0 k N M W HOK.out hc8 hr hb hM)
  have CS := Lib.hid (fun W hr hb => spread_ok A8 L c8 w1.heap.size qOf n0 k N W HOK.out hc8 hr hb)
  have CY := Lib.hid (fun W hr hb => busy_ok A8 L c8 w1.heap.size qOf n0 k N W HOK.out hc8 hr hb)
  have hpl := runP_len qOf k L N M n0 (fun _ => false)
  have hnw := NW.reads
  clear o1 b1 CL hr PN
  go_wp2_with fail
  refine (PM.out _).mono ?_
  rintro e w' ⟨rfl, rfl⟩
  go_wp2_with fail
  refine (CB.out _ hnw (Nat.le_refl _)).mono ?_
  rintro e w2 ⟨v2, rfl, o2, b2⟩
  obtain ⟨ps, hps⟩ : ∃ ps, runP qOf k L N M n0 (fun _ => false) = ps := ⟨_, rfl⟩
  rw [hps] at o2 hpl
  have HPS := Lib.hid hps
  clear hps CB
  obtain ⟨A9, c9, rfl, hc9, _⟩ := own_shape o2
  have R9 := Reads.of_own o2
  have NW2 := NW.below b2 (Nat.le_refl _)
  have hnw2 := hnw.below b2
  have bel2 := bel1.trans (b2.mono bel1.size)
  have hs2 := b2.size
  clear NW bel1 b2 o2 hnw
  go_wp2_with fail
  refine (CS.out _ hnw2 hs2).mono ?_
  rintro e w3 ⟨rfl, b3⟩
  have R93 := R9.below b3
  have NW3 := NW2.below b3 (Nat.le_refl _)
  have hnw3 := hnw2.below (b3.mono hs2)
  have bel3 := bel2.trans (b3.mono bel2.size)
  have hs3 := b3.size
  clear R9 NW2 bel2 b3 CS hnw2
  have hsn := spread_nonneg (sumTo n0 k L) N hN1
  have hsu := Lib.hid (spread_unlike (sumTo n0 k L) N hN1)
  have hu2 := Lib.hid (fun u => unlike_two (h := sumTo n0 k L) (N := N) u)
  have g1 : ¬ (M : Int) < (ps.length : Int) := by omega
  have g3 : ¬ M < ps.length := by omega
  have hps4 : ps.length ≤ 4 := by omega
  obtain ⟨sp, hsp⟩ : ∃ sp, spread (sumTo n0 k L) N = sp := ⟨_, rfl⟩
  rw [hsp] at hsn hsu ⊢
  have HSP := Lib.hid hsp
  clear hsp
  have g2 : ¬ sp < 0 := by omega
  go_wp2_with fail
  refine (PM.out _).mono ?_
  rintro e w' ⟨rfl, rfl⟩
  have HSP0 := Lib.hid HSP.out
  by_cases hN2 : N = 1
  · have hNI : ¬ (1 : Int) < (N : Int) := by omega
    have hs0 : ¬ 0 < sp := fun h => by have := hu2.out (hsu.out.1 h); omega
    clear hN2
    go_wp2_with fail
    have hsq := bel3.size
    have RP := R93.more (B' := w3.heap.size) hs3
    have RP1 := RP.alloc (Nat.le_refl _) (.cells (bRow (fun _ => false) 4) 33)
    have NW1 := NW3.alloc (.cells (bRow (fun _ => false) 4) 33)
    have G1 := Blk.new w3 33 (bRow (fun _ => false) 4)
    have bl1 := bel3.alloc hsq (.cells (bRow (fun _ => false) 4) 33)
    rw [← false4] at RP1 NW1 G1 bl1
    obtain ⟨gg, hgg⟩ : ∃ gg, gg = w3.heap.size := ⟨_, rfl⟩
    rw [← hgg] at RP1 G1 hsq
    clear RP R93 NW3 bel3 hnw3 HSP hsn hsu hu2 hpl g1 g2 g3 PM CY
    have HGG := Lib.hid hgg
    clear hgg hs0 hNI
    rw [← HGG.out]
    go_loopw [8, 11, 14] (fun s8 s11 s14 wr => ∃ (i : Nat) (n' : Nat → Int) (gone : Nat → Bool) (m : Nat) (A8 : Option Addr) (c8 : Nat), i ≤ ps.length ∧ s14 = .int .i64 i ∧ s8 = .slice A8 L c8 ∧ s11 = .int .i64 (spread (sumTo n' k L) N) ∧ L ≤ c8 ∧ ps.drop i = runP qOf k L N m n' gone ∧ LdOk qOf n' k L N ∧ Now wr w.heap.size A8 L (ldCells qOf n' k L) ∧ Blk wr gg 33 (bRow gone 4) ∧ Reads wr gg 3 A9 ps.length (plCells ps) ∧ Below w.heap.size w wr) (fun _ _ s14 _ => ps.length - (intOf s14).toNat)
    case atStart => exact ⟨0, n0, _, M, A8, c8, by omega, rfl, rfl, by rw [HSP0.out], hc8, HPS.out.symm, HOK.out, NW1, G1, RP1, bl1⟩
    case round =>
      clear NW1 G1 RP1 bl1 HGG HPS HOK HSP0
      obtain ⟨i, n', gone, m, A8, c8, hi, rfl, rfl, rfl, hc8', hdrop, hok, NW, G, RP, bel⟩ := hrel
      have HD := Lib.hid hdrop
      have HO := Lib.hid hok
      clear hdrop hok
      by_cases hlt : i < ps.length
      · obtain ⟨p, hp⟩ : ∃ p, ps[i]? = some p := ⟨_, List.getElem?_eq_getElem hlt⟩
        have hdr : ps.drop i = p :: ps.drop (i + 1) := by
          rw [List.getElem?_eq_getElem hlt] at hp
          injection hp with hp
          rw [← hp]
          exact List.drop_eq_getElem_cons hlt
        obtain ⟨b, m', hbL, hpe, hgo, hnb, hkb, hft, hrest, hsp'⟩ := runP_cons HO.out (HD.out.symm.trans hdr)
        have HR2 := Lib.hid hrest
        have HO2 := Lib.hid (ldOk_set HO.out b (endTo (sumTo n' k L) N).2 (by obtain ⟨_, _, h3⟩ := endTo_lt (sumTo n' k L) N; exact (h3 (by omega)).2))
        have HBE := Lib.hid (beh_setF n' b L (endTo (sumTo n' k L) N).1 (endTo (sumTo n' k L) N).2 hbL hnb)
        have hq : qOf b = (b : Int) := rfl
        rw [hq] at hpe HBE
        clear hdr hrest HD HO hq
        subst hpe
        obtain ⟨f, hf⟩ : ∃ f, (endTo (sumTo n' k L) N).1 = f := ⟨_, rfl⟩
        obtain ⟨t, ht⟩ : ∃ t, (endTo (sumTo n' k L) N).2 = t := ⟨_, rfl⟩
        rw [hf] at hp hnb hft HBE
        rw [ht] at hp hft HBE HR2 HO2 hsp'
        clear hf ht
        obtain ⟨bp, off, hA9, hbp, z0, z1, z2⟩ := plAt RP rfl hlt hp
        subst hA9
        obtain ⟨g, hA8, hg, R⟩ := NW.2 (by omega)
        subst hA8
        have y1 := R.cell (ldCells_at qOf n' k L b 1 hbL (by omega))
        have y2 := R.cell (ldCells_at qOf n' k L b 2 hbL (by omega))
        simp only [List.getD_cons_zero, List.getD_cons_succ] at y1 y2
        rw [hnb] at y1
        have yg := (G.cell b).trans (bRow_at gone 4 b (by omega))
        rw [hgo] at yg
        have zg := R.lt
        have zgg := G.lt
        have zbp : bp < wr.heap.size := by omega
        have hI : (i : Int) < (ps.length : Int) := by omega
        have hbI : (b : Int) < (L : Int) := by omega
        have hbn : ¬ (b : Int) < 0 := by omega
        have hbn2 : ¬ (L : Int) ≤ (b : Int) := by omega
        have hb4 : (b : Int) < 4 := by omega
        have hb4' : b < 4 := by omega
        have hft' : ¬ (f : Int) = (t : Int) := by omega
        have ft1 : ((f : Int) == (t : Int)) = false := by rw [beq_eq_false_iff_ne]; exact hft'
        have ft2 : ((f : Int) != (t : Int)) = true := by rw [bne_iff_ne]; exact hft'
        have ft3 : decide ((f : Int) = (t : Int)) = false := by rw [decide_eq_false_iff_not]; exact hft'
        generalize k b = kb at *
        have kb1 : (kb == 0) = false := by rw [beq_eq_false_iff_ne]; exact hkb
        have kb2 : (kb != 0) = true := by rw [bne_iff_ne]; exact hkb
        have kb3 : decide (kb = 0) = false := by rw [decide_eq_false_iff_not]; exact hkb
        have i2 : IntKind.i64.wrap ((i : Int) + 1) = (i : Int) + 1 := IntWalk.i64_in _ (by omega)
        clear hft hft' hkb hnb hgo hp
        have RX := R.alloc (.cells #[.int .i64 b, .int .i64 f, .int .i64 t] 35)
        have GX := G.alloc (.cells #[.int .i64 b, .int .i64 f, .int .i64 t] 35)
        have RPX := RP.alloc (by omega) (.cells #[.int .i64 b, .int .i64 f, .int .i64 t] 35)
        have DX := Blk.new wr 35 #[.int .i64 b, .int .i64 f, .int .i64 t]
        have belX := bel.alloc bel.size (.cells #[.int .i64 b, .int .i64 f, .int .i64 t] 35)
        obtain ⟨gx, hgx⟩ : ∃ gx, gx = wr.heap.size := ⟨_, rfl⟩
        rw [← hgx] at DX
        have HGX := Lib.hid hgx
        have nx1 : ¬ gx = gg := by omega
        have nx2 : ¬ gg = gx := by omega
        have nx3 : ¬ gx = g := by omega
        have nx4 : ¬ g = gx := by omega
        clear hgx G RP bel NW R
        go_wp2_with fail
        go_quiet (fail)
        rw [← HGX.out]
        have RX' : RowAt ((wr.alloc (.cells #[.int .i64 b, .int .i64 f, .int .i64 t] 35)).drewN nq) g 37 _ := RX.drewN nq
        have GX' : Blk ((wr.alloc (.cells #[.int .i64 b, .int .i64 f, .int .i64 t] 35)).drewN nq) gg 33 _ := GX.drewN nq
        have RPX' : Reads ((wr.alloc (.cells #[.int .i64 b, .int .i64 f, .int .i64 t] 35)).drewN nq) gg 3 _ ps.length _ := RPX.drewN nq
        have DX' : Blk ((wr.alloc (.cells #[.int .i64 b, .int .i64 f, .int .i64 t] 35)).drewN nq) gx 35 _ := DX.drewN nq
        have belX' := below_drewN belX nq
        generalize (wr.alloc (.cells #[.int .i64 b, .int .i64 f, .int .i64 t] 35)).drewN nq = w5 at *
        clear RX GX RPX DX belX HGX y1 y2 yg zg zgg zbp z0 z1 z2
        have ngg := RX'.ne_ GX' (by decide)
        have G6 := GX'.set_ b (.bool true)
        rw [bRow_set gone 4 b true hb4'] at G6
        have R6 := RX'.far (p := ⟨gg, b, none⟩) ngg (.bool true)
        have RP6 := RPX'.setCell (p := ⟨gg, b, none⟩) (Nat.le_refl _) (.bool true)
        have D6 := DX'.far (p := ⟨gg, b, none⟩) nx1 (.bool true)
        have bel6 := belX'.setCell (p := ⟨gg, b, none⟩) hsq (.bool true)
        have zf := GX'.frozen
        have zgg := GX'.lt
        have yg := (GX'.cell b).trans (bRow_at gone 4 b hb4')
        have d0 := DX'.cell 0
        have d1 := DX'.cell 1
        have d2 := DX'.cell 2
        go_upto_region 15 with fail
        generalize w5.setCell ⟨gg, b, none⟩ (.bool true) = w6 at *
        clear RX' GX' RPX' DX' belX' zf zgg yg d0 d1 d2
        have d0 := D6.cell 0
        have d1 := D6.cell 1
        have d2 := D6.cell 2
        have r6 := R6.reads (n := L) (size := 3) (ldCells_len _ _ _ _)
        go_wp2_with fail
        refine (behind_ok (some ⟨g, 0, none⟩) L c8 w6.heap.size qOf n' k b f t w6 hL4 r6 (Nat.le_refl _)).mono ?_
        rintro e w7 ⟨A7, c7, rfl, hc7, NW7, b7⟩
        rw [HBE.out] at NW7
        have G7 := G6.below b7 G6.lt
        have RP7 := RP6.below (b7.mono (Nat.le_of_lt G6.lt))
        have bel7 := bel6.trans (b7.mono bel6.size)
        have r7 := NW7.reads
        have hs6 := bel6.size
        clear d0 d1 d2 r6 R6 D6 G6 RP6 bel6 HBE
        have NW7' : Now w7 w.heap.size A7 L (ldCells qOf (setF n' b t) k L) := ⟨NW7.1, fun h0 => by obtain ⟨g, e, h1, hr⟩ := NW7.2 h0; exact ⟨g, e, by omega, hr⟩⟩
        clear NW7
        go_wp2_with fail
        refine (spread_ok A7 L c7 w7.heap.size qOf (setF n' b t) k N w7 HO2.out hc7 r7 (Nat.le_refl _)).mono ?_
        rintro e w8 ⟨rfl, b8⟩
        have NW8 := NW7'.below b8 (Nat.le_refl _)
        have G8 := G7.below b8 G7.lt
        have RP8 := RP7.below (b8.mono (Nat.le_of_lt G7.lt))
        have bel8 := bel7.trans (b8.mono bel7.size)
        clear r7 NW7' G7 RP7 bel7 b7 b8
        obtain ⟨s2, hs2⟩ : ∃ s2, spread (sumTo (setF n' b t) k L) N = s2 := ⟨_, rfl⟩
        have HS2 := Lib.hid hs2
        rw [hs2] at hsp' ⊢
        have hnlt : ¬ spread (sumTo n' k L) N < s2 := by omega
        clear hs2 hsp'
        generalize spread (sumTo n' k L) N = s1 at *
        go_wp2_with fail
        go_roundw
        case rel => exact ⟨i + 1, setF n' b t, setF gone b true, m', A7, c7, by omega, by go_num, rfl, by rw [HS2.out], hc7, HR2.out, HO2.out, NW8, G8, RP8, bel8⟩
        case measure => simp [intOf]; omega
      · obtain hE : i = ps.length := by omega
        have hI : ¬ (i : Int) < (ps.length : Int) := by omega
        clear HD HO
        go_wp2_with fail
        go_ret
        exact ⟨ret_true (by simp), bel⟩
  · have hNI : (1 : Int) < (N : Int) := by omega
    clear hN2
    go_wp2_with fail
    refine (CY.out _ hnw3 (by omega)).mono ?_
    rintro e w4 ⟨bb, rfl, hbb, b4⟩
    have R94 := R93.below (b4.mono hs3)
    have NW4 := NW3.below b4 (Nat.le_refl _)
    have bel4 := bel3.trans (b4.mono bel3.size)
    have hs34 := Nat.le_trans hs3 b4.size
    clear R93 NW3 bel3 b4 hnw3
    cases hbc : bb with
    | true =>
      have hs0 : 0 < sp := hsu.out.2 (hbb.1 hbc)
      clear hbb hbc
      go_wp2_with fail
      have hsq := bel4.size
      have RP := R94.more (B' := w4.heap.size) hs34
      have RP1 := RP.alloc (Nat.le_refl _) (.cells (bRow (fun _ => false) 4) 33)
      have NW1 := NW4.alloc (.cells (bRow (fun _ => false) 4) 33)
      have G1 := Blk.new w4 33 (bRow (fun _ => false) 4)
      have bl1 := bel4.alloc hsq (.cells (bRow (fun _ => false) 4) 33)
      rw [← false4] at RP1 NW1 G1 bl1
      obtain ⟨gg, hgg⟩ : ∃ gg, gg = w4.heap.size := ⟨_, rfl⟩
      rw [← hgg] at RP1 G1 hsq
      clear RP R94 NW4 bel4 HSP hsn hsu hu2 hpl g1 g2 g3 PM CY
      have HGG := Lib.hid hgg
      clear hgg hs0 hNI
      rw [← HGG.out]
      go_loopw [8, 11, 14] (fun s8 s11 s14 wr => ∃ (i : Nat) (n' : Nat → Int) (gone : Nat → Bool) (m : Nat) (A8 : Option Addr) (c8 : Nat), i ≤ ps.length ∧ s14 = .int .i64 i ∧ s8 = .slice A8 L c8 ∧ s11 = .int .i64 (spread (sumTo n' k L) N) ∧ L ≤ c8 ∧ ps.drop i = runP qOf k L N m n' gone ∧ LdOk qOf n' k L N ∧ Now wr w.heap.size A8 L (ldCells qOf n' k L) ∧ Blk wr gg 33 (bRow gone 4) ∧ Reads wr gg 3 A9 ps.length (plCells ps) ∧ Below w.heap.size w wr) (fun _ _ s14 _ => ps.length - (intOf s14).toNat)
      case atStart => exact ⟨0, n0, _, M, A8, c8, by omega, rfl, rfl, by rw [HSP0.out], hc8, HPS.out.symm, HOK.out, NW1, G1, RP1, bl1⟩
      case round =>
        clear NW1 G1 RP1 bl1 HGG HPS HOK HSP0
        obtain ⟨i, n', gone, m, A8, c8, hi, rfl, rfl, rfl, hc8', hdrop, hok, NW, G, RP, bel⟩ := hrel
        have HD := Lib.hid hdrop
        have HO := Lib.hid hok
        clear hdrop hok
        by_cases hlt : i < ps.length
        · obtain ⟨p, hp⟩ : ∃ p, ps[i]? = some p := ⟨_, List.getElem?_eq_getElem hlt⟩
          have hdr : ps.drop i = p :: ps.drop (i + 1) := by
            rw [List.getElem?_eq_getElem hlt] at hp
            injection hp with hp
            rw [← hp]
            exact List.drop_eq_getElem_cons hlt
          obtain ⟨b, m', hbL, hpe, hgo, hnb, hkb, hft, hrest, hsp'⟩ := runP_cons HO.out (HD.out.symm.trans hdr)
          have HR2 := Lib.hid hrest
          have HO2 := Lib.hid (ldOk_set HO.out b (endTo (sumTo n' k L) N).2 (by obtain ⟨_, _, h3⟩ := endTo_lt (sumTo n' k L) N; exact (h3 (by omega)).2))
          have HBE := Lib.hid (beh_setF n' b L (endTo (sumTo n' k L) N).1 (endTo (sumTo n' k L) N).2 hbL hnb)
          have hq : qOf b = (b : Int) := rfl
          rw [hq] at hpe HBE
          clear hdr hrest HD HO hq
          subst hpe
          obtain ⟨f, hf⟩ : ∃ f, (endTo (sumTo n' k L) N).1 = f := ⟨_, rfl⟩
          obtain ⟨t, ht⟩ : ∃ t, (endTo (sumTo n' k L) N).2 = t := ⟨_, rfl⟩
          rw [hf] at hp hnb hft HBE
          rw [ht] at hp hft HBE HR2 HO2 hsp'
          clear hf ht
          obtain ⟨bp, off, hA9, hbp, z0, z1, z2⟩ := plAt RP rfl hlt hp
          subst hA9
          obtain ⟨g, hA8, hg, R⟩ := NW.2 (by omega)
          subst hA8
          have y1 := R.cell (ldCells_at qOf n' k L b 1 hbL (by omega))
          have y2 := R.cell (ldCells_at qOf n' k L b 2 hbL (by omega))
          simp only [List.getD_cons_zero, List.getD_cons_succ] at y1 y2
          rw [hnb] at y1
          have yg := (G.cell b).trans (bRow_at gone 4 b (by omega))
          rw [hgo] at yg
          have zg := R.lt
          have zgg := G.lt
          have zbp : bp < wr.heap.size := by omega
          have hI : (i : Int) < (ps.length : Int) := by omega
          have hbI : (b : Int) < (L : Int) := by omega
          have hbn : ¬ (b : Int) < 0 := by omega
          have hbn2 : ¬ (L : Int) ≤ (b : Int) := by omega
          have hb4 : (b : Int) < 4 := by omega
          have hb4' : b < 4 := by omega
          have hft' : ¬ (f : Int) = (t : Int) := by omega
          have ft1 : ((f : Int) == (t : Int)) = false := by rw [beq_eq_false_iff_ne]; exact hft'
          have ft2 : ((f : Int) != (t : Int)) = true := by rw [bne_iff_ne]; exact hft'
          have ft3 : decide ((f : Int) = (t : Int)) = false := by rw [decide_eq_false_iff_not]; exact hft'
          generalize k b = kb at *
          have kb1 : (kb == 0) = false := by rw [beq_eq_false_iff_ne]; exact hkb
          have kb2 : (kb != 0) = true := by rw [bne_iff_ne]; exact hkb
          have kb3 : decide (kb = 0) = false := by rw [decide_eq_false_iff_not]; exact hkb
          have i2 : IntKind.i64.wrap ((i : Int) + 1) = (i : Int) + 1 := IntWalk.i64_in _ (by omega)
          clear hft hft' hkb hnb hgo hp
          have RX := R.alloc (.cells #[.int .i64 b, .int .i64 f, .int .i64 t] 35)
          have GX := G.alloc (.cells #[.int .i64 b, .int .i64 f, .int .i64 t] 35)
          have RPX := RP.alloc (by omega) (.cells #[.int .i64 b, .int .i64 f, .int .i64 t] 35)
          have DX := Blk.new wr 35 #[.int .i64 b, .int .i64 f, .int .i64 t]
          have belX := bel.alloc bel.size (.cells #[.int .i64 b, .int .i64 f, .int .i64 t] 35)
          obtain ⟨gx, hgx⟩ : ∃ gx, gx = wr.heap.size := ⟨_, rfl⟩
          rw [← hgx] at DX
          have HGX := Lib.hid hgx
          have nx1 : ¬ gx = gg := by omega
          have nx2 : ¬ gg = gx := by omega
          have nx3 : ¬ gx = g := by omega
          have nx4 : ¬ g = gx := by omega
          clear hgx G RP bel NW R
          go_wp2_with fail
          go_quiet (fail)
          rw [← HGX.out]
          have RX' : RowAt ((wr.alloc (.cells #[.int .i64 b, .int .i64 f, .int .i64 t] 35)).drewN nq) g 37 _ := RX.drewN nq
          have GX' : Blk ((wr.alloc (.cells #[.int .i64 b, .int .i64 f, .int .i64 t] 35)).drewN nq) gg 33 _ := GX.drewN nq
          have RPX' : Reads ((wr.alloc (.cells #[.int .i64 b, .int .i64 f, .int .i64 t] 35)).drewN nq) gg 3 _ ps.length _ := RPX.drewN nq
          have DX' : Blk ((wr.alloc (.cells #[.int .i64 b, .int .i64 f, .int .i64 t] 35)).drewN nq) gx 35 _ := DX.drewN nq
          have belX' := below_drewN belX nq
          generalize (wr.alloc (.cells #[.int .i64 b, .int .i64 f, .int .i64 t] 35)).drewN nq = w5 at *
          clear RX GX RPX DX belX HGX y1 y2 yg zg zgg zbp z0 z1 z2
          have ngg := RX'.ne_ GX' (by decide)
          have G6 := GX'.set_ b (.bool true)
          rw [bRow_set gone 4 b true hb4'] at G6
          have R6 := RX'.far (p := ⟨gg, b, none⟩) ngg (.bool true)
          have RP6 := RPX'.setCell (p := ⟨gg, b, none⟩) (Nat.le_refl _) (.bool true)
          have D6 := DX'.far (p := ⟨gg, b, none⟩) nx1 (.bool true)
          have bel6 := belX'.setCell (p := ⟨gg, b, none⟩) hsq (.bool true)
          have zf := GX'.frozen
          have zgg := GX'.lt
          have yg := (GX'.cell b).trans (bRow_at gone 4 b hb4')
          have d0 := DX'.cell 0
          have d1 := DX'.cell 1
          have d2 := DX'.cell 2
          go_upto_region 15 with fail
          generalize w5.setCell ⟨gg, b, none⟩ (.bool true) = w6 at *
          clear RX' GX' RPX' DX' belX' zf zgg yg d0 d1 d2
          have d0 := D6.cell 0
          have d1 := D6.cell 1
          have d2 := D6.cell 2
          have r6 := R6.reads (n := L) (size := 3) (ldCells_len _ _ _ _)
          go_wp2_with fail
          refine (behind_ok (some ⟨g, 0, none⟩) L c8 w6.heap.size qOf n' k b f t w6 hL4 r6 (Nat.le_refl _)).mono ?_
          rintro e w7 ⟨A7, c7, rfl, hc7, NW7, b7⟩
          rw [HBE.out] at NW7
          have G7 := G6.below b7 G6.lt
          have RP7 := RP6.below (b7.mono (Nat.le_of_lt G6.lt))
          have bel7 := bel6.trans (b7.mono bel6.size)
          have r7 := NW7.reads
          have hs6 := bel6.size
          clear d0 d1 d2 r6 R6 D6 G6 RP6 bel6 HBE
          have NW7' : Now w7 w.heap.size A7 L (ldCells qOf (setF n' b t) k L) := ⟨NW7.1, fun h0 => by obtain ⟨g, e, h1, hr⟩ := NW7.2 h0; exact ⟨g, e, by omega, hr⟩⟩
          clear NW7
          go_wp2_with fail
          refine (spread_ok A7 L c7 w7.heap.size qOf (setF n' b t) k N w7 HO2.out hc7 r7 (Nat.le_refl _)).mono ?_
          rintro e w8 ⟨rfl, b8⟩
          have NW8 := NW7'.below b8 (Nat.le_refl _)
          have G8 := G7.below b8 G7.lt
          have RP8 := RP7.below (b8.mono (Nat.le_of_lt G7.lt))
          have bel8 := bel7.trans (b8.mono bel7.size)
          clear r7 NW7' G7 RP7 bel7 b7 b8
          obtain ⟨s2, hs2⟩ : ∃ s2, spread (sumTo (setF n' b t) k L) N = s2 := ⟨_, rfl⟩
          have HS2 := Lib.hid hs2
          rw [hs2] at hsp' ⊢
          have hnlt : ¬ spread (sumTo n' k L) N < s2 := by omega
          clear hs2 hsp'
          generalize spread (sumTo n' k L) N = s1 at *
          go_wp2_with fail
          go_roundw
          case rel => exact ⟨i + 1, setF n' b t, setF gone b true, m', A7, c7, by omega, by go_num, rfl, by rw [HS2.out], hc7, HR2.out, HO2.out, NW8, G8, RP8, bel8⟩
          case measure => simp [intOf]; omega
        · obtain hE : i = ps.length := by omega
          have hI : ¬ (i : Int) < (ps.length : Int) := by omega
          clear HD HO
          go_wp2_with fail
          go_ret
          exact ⟨ret_true (by simp), bel⟩
    | false =>
      have hs0 : ¬ 0 < sp := fun h => by have := hbb.2 (hsu.out.1 h); rw [hbc] at this; cases this
      clear hbb hbc
      go_wp2_with fail
      have hsq := bel4.size
      have RP := R94.more (B' := w4.heap.size) hs34
      have RP1 := RP.alloc (Nat.le_refl _) (.cells (bRow (fun _ => false) 4) 33)
      have NW1 := NW4.alloc (.cells (bRow (fun _ => false) 4) 33)
      have G1 := Blk.new w4 33 (bRow (fun _ => false) 4)
      have bl1 := bel4.alloc hsq (.cells (bRow (fun _ => false) 4) 33)
      rw [← false4] at RP1 NW1 G1 bl1
      obtain ⟨gg, hgg⟩ : ∃ gg, gg = w4.heap.size := ⟨_, rfl⟩
      rw [← hgg] at RP1 G1 hsq
      clear RP R94 NW4 bel4 HSP hsn hsu hu2 hpl g1 g2 g3 PM CY
      have HGG := Lib.hid hgg
      clear hgg hs0 hNI
      rw [← HGG.out]
      go_loopw [8, 11, 14] (fun s8 s11 s14 wr => ∃ (i : Nat) (n' : Nat → Int) (gone : Nat → Bool) (m : Nat) (A8 : Option Addr) (c8 : Nat), i ≤ ps.length ∧ s14 = .int .i64 i ∧ s8 = .slice A8 L c8 ∧ s11 = .int .i64 (spread (sumTo n' k L) N) ∧ L ≤ c8 ∧ ps.drop i = runP qOf k L N m n' gone ∧ LdOk qOf n' k L N ∧ Now wr w.heap.size A8 L (ldCells qOf n' k L) ∧ Blk wr gg 33 (bRow gone 4) ∧ Reads wr gg 3 A9 ps.length (plCells ps) ∧ Below w.heap.size w wr) (fun _ _ s14 _ => ps.length - (intOf s14).toNat)
      case atStart => exact ⟨0, n0, _, M, A8, c8, by omega, rfl, rfl, by rw [HSP0.out], hc8, HPS.out.symm, HOK.out, NW1, G1, RP1, bl1⟩
      case round =>
        clear NW1 G1 RP1 bl1 HGG HPS HOK HSP0
        obtain ⟨i, n', gone, m, A8, c8, hi, rfl, rfl, rfl, hc8', hdrop, hok, NW, G, RP, bel⟩ := hrel
        have HD := Lib.hid hdrop
        have HO := Lib.hid hok
        clear hdrop hok
        by_cases hlt : i < ps.length
        · obtain ⟨p, hp⟩ : ∃ p, ps[i]? = some p := ⟨_, List.getElem?_eq_getElem hlt⟩
          have hdr : ps.drop i = p :: ps.drop (i + 1) := by
            rw [List.getElem?_eq_getElem hlt] at hp
            injection hp with hp
            rw [← hp]
            exact List.drop_eq_getElem_cons hlt
          obtain ⟨b, m', hbL, hpe, hgo, hnb, hkb, hft, hrest, hsp'⟩ := runP_cons HO.out (HD.out.symm.trans hdr)
          have HR2 := Lib.hid hrest
          have HO2 := Lib.hid (ldOk_set HO.out b (endTo (sumTo n' k L) N).2 (by obtain ⟨_, _, h3⟩ := endTo_lt (sumTo n' k L) N; exact (h3 (by omega)).2))
          have HBE := Lib.hid (beh_setF n' b L (endTo (sumTo n' k L) N).1 (endTo (sumTo n' k L) N).2 hbL hnb)
          have hq : qOf b = (b : Int) := rfl
          rw [hq] at hpe HBE
          clear hdr hrest HD HO hq
          subst hpe
          obtain ⟨f, hf⟩ : ∃ f, (endTo (sumTo n' k L) N).1 = f := ⟨_, rfl⟩
          obtain ⟨t, ht⟩ : ∃ t, (endTo (sumTo n' k L) N).2 = t := ⟨_, rfl⟩
          rw [hf] at hp hnb hft HBE
          rw [ht] at hp hft HBE HR2 HO2 hsp'
          clear hf ht
          obtain ⟨bp, off, hA9, hbp, z0, z1, z2⟩ := plAt RP rfl hlt hp
          subst hA9
          obtain ⟨g, hA8, hg, R⟩ := NW.2 (by omega)
          subst hA8
          have y1 := R.cell (ldCells_at qOf n' k L b 1 hbL (by omega))
          have y2 := R.cell (ldCells_at qOf n' k L b 2 hbL (by omega))
          simp only [List.getD_cons_zero, List.getD_cons_succ] at y1 y2
          rw [hnb] at y1
          have yg := (G.cell b).trans (bRow_at gone 4 b (by omega))
          rw [hgo] at yg
          have zg := R.lt
          have zgg := G.lt
          have zbp : bp < wr.heap.size := by omega
          have hI : (i : Int) < (ps.length : Int) := by omega
          have hbI : (b : Int) < (L : Int) := by omega
          have hbn : ¬ (b : Int) < 0 := by omega
          have hbn2 : ¬ (L : Int) ≤ (b : Int) := by omega
          have hb4 : (b : Int) < 4 := by omega
          have hb4' : b < 4 := by omega
          have hft' : ¬ (f : Int) = (t : Int) := by omega
          have ft1 : ((f : Int) == (t : Int)) = false := by rw [beq_eq_false_iff_ne]; exact hft'
          have ft2 : ((f : Int) != (t : Int)) = true := by rw [bne_iff_ne]; exact hft'
          have ft3 : decide ((f : Int) = (t : Int)) = false := by rw [decide_eq_false_iff_not]; exact hft'
          generalize k b = kb at *
          have kb1 : (kb == 0) = false := by rw [beq_eq_false_iff_ne]; exact hkb
          have kb2 : (kb != 0) = true := by rw [bne_iff_ne]; exact hkb
          have kb3 : decide (kb = 0) = false := by rw [decide_eq_false_iff_not]; exact hkb
          have i2 : IntKind.i64.wrap ((i : Int) + 1) = (i : Int) + 1 := IntWalk.i64_in _ (by omega)
          clear hft hft' hkb hnb hgo hp
          have RX := R.alloc (.cells #[.int .i64 b, .int .i64 f, .int .i64 t] 35)
          have GX := G.alloc (.cells #[.int .i64 b, .int .i64 f, .int .i64 t] 35)
          have RPX := RP.alloc (by omega) (.cells #[.int .i64 b, .int .i64 f, .int .i64 t] 35)
          have DX := Blk.new wr 35 #[.int .i64 b, .int .i64 f, .int .i64 t]
          have belX := bel.alloc bel.size (.cells #[.int .i64 b, .int .i64 f, .int .i64 t] 35)
          obtain ⟨gx, hgx⟩ : ∃ gx, gx = wr.heap.size := ⟨_, rfl⟩
          rw [← hgx] at DX
          have HGX := Lib.hid hgx
          have nx1 : ¬ gx = gg := by omega
          have nx2 : ¬ gg = gx := by omega
          have nx3 : ¬ gx = g := by omega
          have nx4 : ¬ g = gx := by omega
          clear hgx G RP bel NW R
          go_wp2_with fail
          go_quiet (fail)
          rw [← HGX.out]
          have RX' : RowAt ((wr.alloc (.cells #[.int .i64 b, .int .i64 f, .int .i64 t] 35)).drewN nq) g 37 _ := RX.drewN nq
          have GX' : Blk ((wr.alloc (.cells #[.int .i64 b, .int .i64 f, .int .i64 t] 35)).drewN nq) gg 33 _ := GX.drewN nq
          have RPX' : Reads ((wr.alloc (.cells #[.int .i64 b, .int .i64 f, .int .i64 t] 35)).drewN nq) gg 3 _ ps.length _ := RPX.drewN nq
          have DX' : Blk ((wr.alloc (.cells #[.int .i64 b, .int .i64 f, .int .i64 t] 35)).drewN nq) gx 35 _ := DX.drewN nq
          have belX' := below_drewN belX nq
          generalize (wr.alloc (.cells #[.int .i64 b, .int .i64 f, .int .i64 t] 35)).drewN nq = w5 at *
          clear RX GX RPX DX belX HGX y1 y2 yg zg zgg zbp z0 z1 z2
          have ngg := RX'.ne_ GX' (by decide)
          have G6 := GX'.set_ b (.bool true)
          rw [bRow_set gone 4 b true hb4'] at G6
          have R6 := RX'.far (p := ⟨gg, b, none⟩) ngg (.bool true)
          have RP6 := RPX'.setCell (p := ⟨gg, b, none⟩) (Nat.le_refl _) (.bool true)
          have D6 := DX'.far (p := ⟨gg, b, none⟩) nx1 (.bool true)
          have bel6 := belX'.setCell (p := ⟨gg, b, none⟩) hsq (.bool true)
          have zf := GX'.frozen
          have zgg := GX'.lt
          have yg := (GX'.cell b).trans (bRow_at gone 4 b hb4')
          have d0 := DX'.cell 0
          have d1 := DX'.cell 1
          have d2 := DX'.cell 2
          go_upto_region 15 with fail
          generalize w5.setCell ⟨gg, b, none⟩ (.bool true) = w6 at *
          clear RX' GX' RPX' DX' belX' zf zgg yg d0 d1 d2
          have d0 := D6.cell 0
          have d1 := D6.cell 1
          have d2 := D6.cell 2
          have r6 := R6.reads (n := L) (size := 3) (ldCells_len _ _ _ _)
          go_wp2_with fail
          refine (behind_ok (some ⟨g, 0, none⟩) L c8 w6.heap.size qOf n' k b f t w6 hL4 r6 (Nat.le_refl _)).mono ?_
          rintro e w7 ⟨A7, c7, rfl, hc7, NW7, b7⟩
          rw [HBE.out] at NW7
          have G7 := G6.below b7 G6.lt
          have RP7 := RP6.below (b7.mono (Nat.le_of_lt G6.lt))
          have bel7 := bel6.trans (b7.mono bel6.size)
          have r7 := NW7.reads
          have hs6 := bel6.size
          clear d0 d1 d2 r6 R6 D6 G6 RP6 bel6 HBE
          have NW7' : Now w7 w.heap.size A7 L (ldCells qOf (setF n' b t) k L) := ⟨NW7.1, fun h0 => by obtain ⟨g, e, h1, hr⟩ := NW7.2 h0; exact ⟨g, e, by omega, hr⟩⟩
          clear NW7
          go_wp2_with fail
          refine (spread_ok A7 L c7 w7.heap.size qOf (setF n' b t) k N w7 HO2.out hc7 r7 (Nat.le_refl _)).mono ?_
          rintro e w8 ⟨rfl, b8⟩
          have NW8 := NW7'.below b8 (Nat.le_refl _)
          have G8 := G7.below b8 G7.lt
          have RP8 := RP7.below (b8.mono (Nat.le_of_lt G7.lt))
          have bel8 := bel7.trans (b8.mono bel7.size)
          clear r7 NW7' G7 RP7 bel7 b7 b8
          obtain ⟨s2, hs2⟩ : ∃ s2, spread (sumTo (setF n' b t) k L) N = s2 := ⟨_, rfl⟩
          have HS2 := Lib.hid hs2
          rw [hs2] at hsp' ⊢
          have hnlt : ¬ spread (sumTo n' k L) N < s2 := by omega
          clear hs2 hsp'
          generalize spread (sumTo n' k L) N = s1 at *
          go_wp2_with fail
          go_roundw
          case rel => exact ⟨i + 1, setF n' b t, setF gone b true, m', A7, c7, by omega, by go_num, rfl, by rw [HS2.out], hc7, HR2.out, HO2.out, NW8, G8, RP8, bel8⟩
          case measure => simp [intOf]; omega
        · obtain hE : i = ps.length := by omega
          have hI : ¬ (i : Int) < (ps.length : Int) := by omega
          clear HD HO
          go_wp2_with fail
          go_ret
          exact ⟨ret_true (by simp), bel⟩

end Go.Proofs.Ytcbpgmpbjcknbaa
