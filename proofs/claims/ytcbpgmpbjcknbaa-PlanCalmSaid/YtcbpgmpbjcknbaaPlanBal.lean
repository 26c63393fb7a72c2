/- Plans: 'Balance'. -/
import Derived.Test.YtcbpgmpbjcknbaaPlan3
import Derived.Deep.DeepCutAuto
import Derived.WalkMore
namespace Go.Proofs.Ytcbpgmpbjcknbaa
open Go.RowKit

theorem ld_info : (Try.prog.info? 37).map (fun i => (i.zero, i.size, i.bytes)) = some (some (.agg #[.int .i64 0, .int .i64 0, .int .i64 0]), 3, 24) := by kernel_rfl
theorem pl_info : (Try.prog.info? 35).map (fun i => (i.zero, i.size, i.bytes)) = some (some (.agg #[.int .i64 0, .int .i64 0, .int .i64 0]), 3, 24) := by kernel_rfl
theorem rowCells_one (rs : List (List Int)) : ∀ u ∈ rowCells rs, u.oneCell' = true := by
  intro u hu
  simp only [rowCells, List.mem_flatMap, List.mem_map] at hu
  obtain ⟨r, _, z, _, rfl⟩ := hu
  rfl
theorem reads_oneP (w : World) (t : TypeId) (cs : Array Value) (k : Nat) (hk : cs.size = k) : Reads (w.alloc (.cells cs t)) (w.heap.size + 1) k (some ⟨w.heap.size, 0, none⟩) 1 cs.toList := by
  refine ⟨by simp [hk], fun _ => ⟨_, rfl, by simp, fun j u hj => ?_⟩⟩
  have e : (⟨w.heap.size, 0, none⟩ : Addr).add j = ⟨w.heap.size, j, none⟩ := by
    unfold Addr.add
    by_cases h : j = 0 <;> simp [h]
  rw [e, (Blk.new w t cs).cell j]
  simpa using hj
theorem bestTo_succ (gone : Nat → Bool) (n k : Nat → Int) (f D : Int) (i : Nat) : bestTo gone n k f D (i + 1) = if gone i = true ∨ n i ≠ f ∨ k i = 0 ∨ D ≤ k i then bestTo gone n k f D i else if bestTo gone n k f D i < 0 ∨ k (bestTo gone n k f D i).toNat < k i then (i : Int) else bestTo gone n k f D i := rfl
theorem own_block_geP {w : World} {base size n : Nat} {e : TypeId} {v : Value} {xs : List Value} (h : w.ownsRow base e size v n xs) : ∀ k, v.ownBlock = some k → base ≤ k := by
  intro k hk
  rcases h.2 with ⟨rfl, _⟩ | ⟨g, cap, cur, rfl, hb, _⟩
  · simp [Value.ownBlock] at hk
  · have : g = k := by simpa [Value.ownBlock] using hk
    omega
def BalPost (w : World) (ps : List (Int × Int × Int)) (e : Ending) (w' : World) : Prop :=
  ∃ v, e = .returned (.tuple #[v, .int .i64 0]) ∧ w'.ownsRow w.heap.size 35 3 v ps.length (plCells ps) ∧ Below w.heap.size w w'

set_option maxRecDepth 100000 in
set_option maxHeartbeats 8000000 in
theorem bal_ok (A : Option Addr) (L c B : Nat) (q n k : Nat → Int) (N M : Nat) (w : World) (h : LdOk q n k L N) (hc : L ≤ c) (hr : Reads w B 3 A L (ldCells q n k L)) (hB : B ≤ w.heap.size) (hM : M ≤ 4) :
    Calls Try.prog 11 #[.slice A L c, .int .i64 N, .int .i64 M] w (BalPost w (runP q k L N M n (fun _ => false))) := by
  obtain ⟨i0, hi0, hz0, hz1, hz2⟩ := info_parts ld_info
  obtain ⟨i3, hi3, hz3, hz4, hz5⟩ := info_parts pl_info
  have CC := Lib.hid (fun W hr hb => pcheck_ok A L c B q n k N W h hc hr hb)
  have hL := h.hL
  have hN1 := h.n1
  have hN5 := h.n5
  have hmk := run_make_row' (P := Try.prog) 68 4 (.bool false) 1 Try.underlying68 bool_info rfl .i64 .i64 L (by omega) (by omega)
  rw [made_bRow] at hmk
  have HP := Lib.hid (show ∀ v w' ps, runP q k L N M n (fun _ => false) = ps → w'.ownsRow w.heap.size 35 3 v ps.length (plCells ps) → Below w.heap.size w w' → BalPost w (runP q k L N M n (fun _ => false)) (.returned (.tuple #[v, .int .i64 0])) w' from fun v w' ps a b c => ⟨v, rfl, a ▸ b, c⟩)
  generalize BalPost w (runP q k L N M n (fun _ => false)) = POST at *
  have HH := Lib.hid h
  have HC := Lib.hid hc
  have hM1 : ¬ (M : Int) < 0 := by omega
  have hM2 : ¬ 4 < (M : Int) := by omega
  clear h
  go_enter Try.func11, Try.ntmps11
  go_wp2_with fail
  go_step3
  go_wp2_with fail
  refine (CC.out _ hr hB).mono ?_
  rintro e w1 ⟨rfl, b1⟩
  have hr1 := hr.below (b1.mono hB)
  have hs1 := b1.size
  clear hr CC
  go_upto_region 7 with (at_builtin; refine wpList_append_any _ rfl (.const (.slice none 0 0)) (.tmp 30) _ rfl w.heap.size 37 i0 _ 3 24 Try.underlying24 hi0 hz0 hz1 hz2 rfl (by omega) (.slice none 0 0) 0 [] rfl (World.ownsRow_nil _ _ _ _) B A L c (ldCells q n k L) rfl hr1 (rowCells_one _) (by simp only [maxLen]; omega) (by omega) (by omega) ?_; intro v2 w2 o2 g2 at2)
  rw [List.nil_append, Nat.zero_add] at o2
  have bel2 := b1.grown g2 hs1 (by simp [Value.ownBlock])
  obtain ⟨A2, c2, rfl, hc2, NW⟩ := own_now o2
  clear o2 g2 at2 b1 hr1 hs1
  have G3 := Blk.new w2 4 (bRow (fun _ => false) L)
  have NW3 := NW.alloc (.cells (bRow (fun _ => false) L) 4)
  have bel3 := bel2.alloc bel2.size (.cells (bRow (fun _ => false) L) 4)
  obtain ⟨gg, hgg⟩ : ∃ gg, gg = w2.heap.size := ⟨_, rfl⟩
  have hgw : w.heap.size ≤ gg := by rw [hgg]; exact bel2.size
  rw [← hgg] at G3
  clear NW bel2
  go_wp2_with fail
  go_step3
  go_wp2_with fail
  rw [← hgg]
  go_loopw [11, 36] (fun s11 s36 wr => ∃ (j : Nat) (ps : List (Int × Int × Int)) (n' : Nat → Int) (gone : Nat → Bool) (v : Value), j ≤ M ∧ s36 = .int .i64 j ∧ s11 = v ∧ runP q k L N M n (fun _ => false) = ps ++ runP q k L N (M - j) n' gone ∧ ps.length ≤ j ∧ LdOk q n' k L N ∧ Now wr w.heap.size A2 L (ldCells q n' k L) ∧ Blk wr gg 4 (bRow gone L) ∧ wr.ownsRow w.heap.size 35 3 v ps.length (plCells ps) ∧ Below w.heap.size w wr) (fun _ s36 _ => M - (intOf s36).toNat)
  case atStart => exact ⟨0, [], n, _, _, by omega, rfl, rfl, rfl, by simp, HH.out, NW3, G3, World.ownsRow_nil _ _ _ _, bel3⟩
  case round =>
    clear NW3 G3 bel3 hmk hgg HH
    obtain ⟨j, ps, n', gone, v, hj, rfl, rfl, hrun, hpl, hok, NW, G, O, bel⟩ := hrel
    have HR := Lib.hid hrun
    have HO := Lib.hid hok
    clear hrun hok
    by_cases hjM : j < M
    · have hjI : (j : Int) < (M : Int) := by omega
      have ij : IntKind.i64.wrap ((j : Int) + 1) = (j : Int) + 1 := IntWalk.i64_in _ (by omega)
      have CS := Lib.hid (fun W hr hb => sums_ok A2 L c2 wr.heap.size q n' k N W HO.out hc2 hr hb)
      have CE := Lib.hid (fun g W E => ends_ok g N (sumTo n' k L) W hN1 hN5 E)
      obtain ⟨e1, e2, e3⟩ := endTo_lt (sumTo n' k L) N
      obtain ⟨e4, e5⟩ := e3 (by omega)
      clear e1 e2 e3
      have hsp := Lib.hid (show sumTo n' k L (endTo (sumTo n' k L) N).1 - sumTo n' k L (endTo (sumTo n' k L) N).2 = spread (sumTo n' k L) N from rfl)
      obtain ⟨v1, v2⟩ := sumTo_bd n' k L HO.out.ks L (endTo (sumTo n' k L) N).1 (Nat.le_refl _)
      obtain ⟨v3, v4⟩ := sumTo_bd n' k L HO.out.ks L (endTo (sumTo n' k L) N).2 (Nat.le_refl _)
      have HT := Lib.hid (show (endTo (sumTo n' k L) N).2 < N from e5)
      have BST := Lib.hid (bestTo_rng gone n' k (endTo (sumTo n' k L) N).1 (spread (sumTo n' k L) N))
      have BS := Lib.hid (fun i => bestTo_succ gone n' k (endTo (sumTo n' k L) N).1 (spread (sumTo n' k L) N) i)
      have RS := Lib.hid (fun h => runP_stop (q := q) (k := k) (L := L) (N := N) (m := M - j) (n := n') (gone := gone) h)
      have RG := Lib.hid (fun b h => runP_go (q := q) (k := k) (L := L) (N := N) (m := M - (j + 1)) (n := n') (gone := gone) (b := b) h)
      obtain ⟨h0, hh0⟩ : ∃ h0, sumTo n' k L = h0 := ⟨_, rfl⟩
      rw [hh0] at CE e4 e5 hsp v1 v2 v3 v4 HT BST BS RS RG
      have HH := Lib.hid hh0
      clear hh0
      obtain ⟨f, hf⟩ : ∃ f, (endTo h0 N).1 = f := ⟨_, rfl⟩
      obtain ⟨t, ht⟩ : ∃ t, (endTo h0 N).2 = t := ⟨_, rfl⟩
      rw [hf, ht] at CE hsp RG
      rw [hf] at e4 v1 v2 BST BS RS
      rw [ht] at e5 v3 v4 HT
      clear hf ht
      have hnw := NW.reads
      go_wp2_with fail
      refine (CS.out _ hnw (Nat.le_refl _)).mono ?_
      rintro e w3 ⟨gh, rfl, hgh, E, b3⟩
      rw [HH.out] at E
      have NW3 := NW.below b3 (Nat.le_refl _)
      have G3 := G.below b3 G.lt
      have O3 := own_below O b3 (Nat.le_refl _)
      have bel3 := bel.trans (b3.mono bel.size)
      clear CS b3 hnw NW G O bel HH hgh
      go_wp2_with fail
      refine (CE.out gh _ E).mono ?_
      rintro e w4 ⟨rfl, b4⟩
      have NW4 := NW3.below b4 (Nat.le_refl _)
      have G4 := G3.below b4 G3.lt
      have E4 := E.below b4 E.lt
      have O4 := own_below O3 b4 (Nat.le_refl _)
      have bel4 := bel3.trans (b4.mono bel3.size)
      clear CE b4 NW3 G3 O3 bel3 E
      go_wp2_with fail
      have hs4 := bel4.size
      go_loopw [15, 48] (fun s15 s48 wx => ∃ i : Nat, i ≤ L ∧ s48 = .int .i64 i ∧ s15 = .int .i64 (bestTo gone n' k f (spread h0 N) i) ∧ Below w4.heap.size w4 wx) (fun _ s48 _ => L - (intOf s48).toNat)
      case atStart => exact ⟨0, by omega, rfl, rfl, Below.refl _ _⟩
      case round =>
        obtain ⟨i, hi, rfl, rfl, belx⟩ := hrel
        by_cases hlt : i < L
        · obtain ⟨gn, hA, _, RN⟩ := NW4.2 (by omega)
          subst hA
          have RX := RN.below belx RN.lt
          have GX := G4.below belx G4.lt
          have EX := E4.below belx E4.lt
          have hzx := belx.size
          have zn : gn < wr.heap.size := RX.lt
          have zg : gg < wr.heap.size := GX.lt
          have ze : gh < wr.heap.size := EX.lt
          have y0 := RX.cell (ldCells_at q n' k L i 0 hlt (by omega))
          have y1 := RX.cell (ldCells_at q n' k L i 1 hlt (by omega))
          have y2 := RX.cell (ldCells_at q n' k L i 2 hlt (by omega))
          simp only [List.getD_cons_zero, List.getD_cons_succ, Nat.add_zero] at y0 y1 y2
          have yg := (GX.cell i).trans (bRow_at gone L i hlt)
          have yf := (EX.cell f).trans (hRow_at h0 N f e4)
          have yt := (EX.cell t).trans (hRow_at h0 N t e5)
          have hbs := Lib.hid (BS.out i)
          have hrg := BST.out i
          have hB0 : bestTo gone n' k f (spread h0 N) i < 0 ∨ ∃ b : Nat, b < L ∧ bestTo gone n' k f (spread h0 N) i = b := by
            rcases hrg with h | ⟨b, hb, h, _⟩
            · exact .inl (by omega)
            · exact .inr ⟨b, by omega, h⟩
          clear hrg BS RS RG HR HO BST
          have hI : (i : Int) < (L : Int) := by omega
          have hfI : (f : Int) < (N : Int) := by omega
          have htI : (t : Int) < (N : Int) := by omega
          have i2 : IntKind.i64.wrap ((i : Int) + 1) = (i : Int) + 1 := IntWalk.i64_in _ (by omega)
          have i4 : IntKind.i64.wrap (h0 f - h0 t) = spread h0 N := by rw [← hsp.out]; exact IntWalk.i64_in _ (by omega)
          generalize spread h0 N = D at *
          generalize h0 f = hf at *
          generalize h0 t = ht at *
          have bely := belx.alloc hzx (.cells #[.int .i64 (q i), .int .i64 (n' i), .int .i64 (k i)] 37)
          have DY := Blk.new wr 37 #[.int .i64 (q i), .int .i64 (n' i), .int .i64 (k i)]
          obtain ⟨gx, hgx⟩ : ∃ gx, gx = wr.heap.size := ⟨_, rfl⟩
          have nx1 : ¬ gn = gx := by omega
          have nx2 : ¬ gx = gn := by omega
          rw [← hgx] at DY
          have HGX := Lib.hid hgx
          clear hgx
          clear O4 G4 E4 NW4 RN hsp v1 v2 v3 v4 HT GX EX
          obtain ⟨bb, hbb⟩ : ∃ bb, bestTo gone n' k f D i = bb := ⟨_, rfl⟩
          rw [hbb] at hB0
          obtain ⟨bn, hbn⟩ : ∃ bn, bestTo gone n' k f D (i + 1) = bn := ⟨_, rfl⟩
          have hBN := Lib.hid hbn
          have hbs' := Lib.hid (show bn = if gone i = true ∨ n' i ≠ (f : Int) ∨ k i = 0 ∨ D ≤ k i then bb else if bb < 0 ∨ k bb.toNat < k i then (i : Int) else bb by rw [← hbn, hbs.out, hbb])
          clear hbn hbs
          obtain ⟨kk, hkk⟩ : ∃ kk, k i = kk := ⟨_, rfl⟩
          obtain ⟨nd, hnd⟩ : ∃ nd, n' i = nd := ⟨_, rfl⟩
          obtain ⟨go, hgo⟩ : ∃ go, gone i = go := ⟨_, rfl⟩
          rw [hkk] at y2 bely DY hbs'
          rw [hnd] at y1 bely DY hbs'
          rw [hgo] at yg hbs'
          generalize q i = qi at *
          clear hgo hkk hnd
          rw [hbb]
          clear hbb
          cases go with
          | true =>
            have hbn := Lib.hid (show bn = bb by rw [hbs'.out, if_pos (.inl rfl)])
            go_wp2_with fail
            go_quiet (fail)
            go_wp2_with fail
            go_roundw
            case rel => exact ⟨i + 1, by omega, by go_num, by rw [hBN.out, hbn.out], below_drewN bely nq⟩
            case measure => simp [intOf]; omega
          | false =>
            by_cases hnf : nd = (f : Int)
            · subst hnf
              by_cases hk0 : kk = 0
              · subst hk0
                have hbn := Lib.hid (show bn = bb by rw [hbs'.out, if_pos (.inr (.inr (.inl rfl)))])
                go_wp2_with fail
                go_quiet (fail)
                go_wp2_with fail
                go_roundw
                case rel => exact ⟨i + 1, by omega, by go_num, by rw [hBN.out, hbn.out], below_drewN bely nq⟩
                case measure => simp [intOf]; omega
              · have hk0' : (kk == 0) = false := by rw [beq_eq_false_iff_ne]; exact hk0
                by_cases hkD : D ≤ kk
                · have hbn := Lib.hid (show bn = bb by rw [hbs'.out, if_pos (.inr (.inr (.inr hkD)))])
                  go_wp2_with fail
                  go_quiet (fail)
                  go_wp2_with fail
                  go_roundw
                  case rel => exact ⟨i + 1, by omega, by go_num, by rw [hBN.out, hbn.out], below_drewN bely nq⟩
                  case measure => simp [intOf]; omega
                · have hbn := Lib.hid (show bn = if bb < 0 ∨ k bb.toNat < kk then (i : Int) else bb by rw [hbs'.out, if_neg (by simp [hk0, hkD])])
                  go_wp2_with fail
                  go_quiet (fail)
                  have RX' : RowAt ((wr.alloc (.cells #[.int .i64 qi, .int .i64 (f : Int), .int .i64 kk] 37)).drewN nq) gn 37 _ := ((RX.alloc (.cells #[.int .i64 qi, .int .i64 (f : Int), .int .i64 kk] 37)).drewN nq)
                  have DY' : Blk ((wr.alloc (.cells #[.int .i64 qi, .int .i64 (f : Int), .int .i64 kk] 37)).drewN nq) gx 37 _ := DY.drewN nq
                  have bely' : Below w4.heap.size w4 ((wr.alloc (.cells #[.int .i64 qi, .int .i64 (f : Int), .int .i64 kk] 37)).drewN nq) := below_drewN bely nq
                  rw [← HGX.out]
                  generalize (wr.alloc (.cells #[.int .i64 qi, .int .i64 (f : Int), .int .i64 kk] 37)).drewN nq = wy at *
                  clear DY RX bely belx y0 y1 y2 yg yf yt zn zg ze
                  have y2 := DY'.cell 2
                  have zx := DY'.lt
                  have zn := RX'.lt
                  rcases hB0 with hbb | ⟨b, hbL, hbb⟩
                  · have hbc : bb < 0 ∨ k bb.toNat < kk := .inl hbb
                    have HBC := Lib.hid hbc
                    clear hbc
                    go_wp2_with fail
                    go_quiet (fail)
                    go_wp2_with fail
                    go_roundw
                    case rel => exact ⟨i + 1, by omega, by go_num, by rw [hBN.out, hbn.out, if_pos HBC.out], below_drewN bely' nq⟩
                    case measure => simp [intOf]; omega
                  · subst hbb
                    have yb := RX'.cell (ldCells_at q n' k L b 2 hbL (by omega))
                    simp only [List.getD_cons_zero, List.getD_cons_succ] at yb
                    have hbI : (b : Int) < (L : Int) := by omega
                    have hbneg : ¬ (b : Int) < 0 := by omega
                    rw [Int.toNat_natCast] at hbn
                    generalize k b = kb at *
                    by_cases hkb : kb < kk
                    · have HBC := Lib.hid (show (b : Int) < 0 ∨ kb < kk from .inr hkb)
                      go_wp2_with fail
                      go_quiet (fail)
                      go_wp2_with fail
                      go_roundw
                      case rel => exact ⟨i + 1, by omega, by go_num, by rw [hBN.out, hbn.out, if_pos HBC.out], below_drewN bely' nq⟩
                      case measure => simp [intOf]; omega
                    · have HBC := Lib.hid (show ¬ ((b : Int) < 0 ∨ kb < kk) by omega)
                      go_wp2_with fail
                      go_quiet (fail)
                      go_wp2_with fail
                      go_roundw
                      case rel => exact ⟨i + 1, by omega, by go_num, by rw [hBN.out, hbn.out, if_neg HBC.out], below_drewN bely' nq⟩
                      case measure => simp [intOf]; omega
            · have hnf' : (nd == (f : Int)) = false := by rw [beq_eq_false_iff_ne]; exact hnf
              have hnf2 : (nd != (f : Int)) = true := by rw [bne_iff_ne]; exact hnf
              have hnf3 : decide (nd = (f : Int)) = false := by rw [decide_eq_false_iff_not]; exact hnf
              have hbn := Lib.hid (show bn = bb by rw [hbs'.out, if_pos (.inr (.inl hnf))])
              clear RX DY hB0 hnf
              go_wp2_with fail
              go_quiet (fail)
              go_wp2_with fail
              go_roundw
              case rel => exact ⟨i + 1, by omega, by go_num, by rw [hBN.out, hbn.out], below_drewN bely nq⟩
              case measure => simp [intOf]; omega
        · obtain rfl : i = L := by omega
          have NX := NW4.below belx (Nat.le_refl _)
          have GX := G4.below belx G4.lt
          have OX := own_below O4 belx (Nat.le_refl _)
          have belX := bel4.trans (belx.mono hs4)
          have hzx := belX.size
          have hrg := BST.out i
          clear NW4 G4 O4 bel4 belx E4 BS BST
          rcases hrg with hneg | ⟨b, hb, hbe, hb1, hb2, hb3, hb4⟩
          · have hrun : runP q k i N M n (fun _ => false) = ps := by rw [HR.out, RS.out (by omega), List.append_nil]
            clear HR RS RG HO HT hsp
            have HP' := Lib.hid (HP.out _ wr ps hrun OX belX)
            clear hrun HP
            rw [hneg]
            go_wp2_with fail
            exact HP'.out
          · have hrun : runP q k i N M n (fun _ => false) = (ps ++ [(q b, (f : Int), (t : Int))]) ++ runP q k i N (M - (j + 1)) (setF n' b t) (setF gone b true) := by
              rw [HR.out, show M - j = M - (j + 1) + 1 by omega, RG.out b hbe, List.append_assoc]
              rfl
            have HR2 := Lib.hid hrun
            have HO2 := Lib.hid (ldOk_set HO.out b t HT.out)
            clear hrun HR RS RG HO HT hsp v1 v2 v3 v4
            rw [hbe]
            obtain ⟨gn, hA, hgn, RN⟩ := NX.2 (by omega)
            subst hA
            have n1 := own_blk_ne OX GX (by decide)
            have n2 : gn ≠ gg := RN.ne_ GX (by decide)
            obtain ⟨cn, KN, hKN⟩ := RN
            have n3 := own_blk_ne OX KN (by decide)
            have R0 : RowAt wr gn 37 (ldCells q n' k i) := ⟨cn, KN, hKN⟩
            have zf := GX.frozen
            have zf2 := KN.frozen
            have yg := (GX.cell b).trans (bRow_at gone i b hb)
            have y0 := R0.cell (ldCells_at q n' k i b 0 hb (by omega))
            have y1 := R0.cell (ldCells_at q n' k i b 1 hb (by omega))
            simp only [List.getD_cons_zero, List.getD_cons_succ, Nat.add_zero] at y0 y1
            have zg := GX.lt
            have zn := KN.lt
            have n2' : ¬ gg = gn := fun e => n2 e.symm
            have hbI : (b : Int) < (i : Int) := by omega
            have hbneg : ¬ (b : Int) < 0 := by omega
            have G5 := GX.set_ b (.bool true)
            rw [bRow_set gone i b true hb] at G5
            have R5 := R0.far (p := ⟨gg, b, none⟩) n2 (.bool true)
            have O5 := ownsRow_setCell_other (a := ⟨gg, b, none⟩) OX n1 (.bool true)
            have bel5 := belX.setCell (p := ⟨gg, b, none⟩) hgw (.bool true)
            have G6 := G5.far (p := ⟨gn, b * 3 + 1, none⟩) (fun e => n2 e.symm) (.int .i64 t)
            have R6 := R5.set_ (b * 3 + 1) (by rw [ldCells_len]; omega) (.int .i64 t)
            rw [ldCells_set q n' k i b t hb] at R6
            have O6 := ownsRow_setCell_other (a := ⟨gn, b * 3 + 1, none⟩) O5 n3 (.int .i64 t)
            have bel6 := bel5.setCell (p := ⟨gn, b * 3 + 1, none⟩) hgn (.int .i64 t)
            clear hb1 hb2 hb3 hb4 hbe NX GX KN hKN R0 OX belX G5 R5 O5 bel5
            go_upto_region 24 with fail
            generalize (wr.setCell ⟨gg, b, none⟩ (.bool true)).setCell ⟨gn, b * 3 + 1, none⟩ (.int .i64 t) = w6 at *
            clear zf zf2 yg y0 y1 zg zn hzx
            have y0 := R6.cell (ldCells_at q (setF n' b t) k i b 0 hb (by omega))
            simp only [List.getD_cons_zero, Nat.add_zero] at y0
            have hs6 := bel6.size
            have o7 := O6.alloc (.cells #[.int .i64 (q b), .int .i64 f, .int .i64 t] 35)
            have rR := reads_oneP w6 35 #[.int .i64 (q b), .int .i64 f, .int .i64 t] 3 rfl
            go_wp2_with (at_builtin; go_loud (refine wpList_append_any _ rfl (.tmp 106) (.tmp 115) _ rfl w.heap.size 35 i3 _ 3 24 Try.underlying26 hi3 hz3 hz4 hz5 rfl (by omega) _ ps.length (plCells ps) rfl o7 _ (some ⟨w6.heap.size, 0, none⟩) 1 1 _ rfl rR (by intro u hu; simp at hu; rcases hu with h | h | h <;> subst h <;> rfl) (by simp only [maxLen]; omega) (by omega) (by simp; omega) ?_; intro v8 w8 o8 g8 at8))
            have R8 := (R6.alloc (.cells #[.int .i64 (q b), .int .i64 f, .int .i64 t] 35)).grown g8 (fun h => n3 h.symm)
            have G8 := (G6.alloc (.cells #[.int .i64 (q b), .int .i64 f, .int .i64 t] 35)).grown g8 (fun h => n1 h.symm)
            have bel8 := (bel6.alloc hs6 (.cells #[.int .i64 (q b), .int .i64 f, .int .i64 t] 35)).grown g8 (by simp; omega) (own_block_geP o7)
            go_roundw
            case rel =>
              refine ⟨j + 1, ps ++ [(q b, (f : Int), (t : Int))], setF n' b t, setF gone b true, v8, by omega, by go_num, rfl, HR2.out, by simp; omega, HO2.out, ⟨ldCells_len _ _ _ _, fun _ => ⟨gn, rfl, hgn, R8⟩⟩, G8, ?_, bel8⟩
              rw [plCells_snoc, List.length_append]
              exact o8
            case measure => simp [intOf]; omega
    · obtain rfl : j = M := by omega
      have hrun : runP q k L N j n (fun _ => false) = ps := by rw [HR.out, Nat.sub_self]; unfold runP; exact List.append_nil _
      have HP' := Lib.hid (HP.out _ wr ps hrun O bel)
      clear hrun HP HR HO
      go_wp2_with fail
      exact HP'.out

end Go.Proofs.Ytcbpgmpbjcknbaa
