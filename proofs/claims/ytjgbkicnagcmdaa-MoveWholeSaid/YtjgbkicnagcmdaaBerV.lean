/- served: a berth that was made, and has served some events. -/
import Derived.Test.YtjgbkicnagcmdaaBerS
import Derived.Test.YtjgbkicnagcmdaaEvt
import Derived.Test.YtjgbkicnagcmdaaHLaw
import Derived.Deep.QuietTactic
import Derived.BigQuiet
namespace Go.Proofs.Ytjgbkicnagcmdaa
open Go.RowKit

/-- a berth that is well is returned -/
def VPost (w0 : World) (I : List It) (b : BM) (ed : Ending) (w' : World) : Prop :=
  ∃ A c, ed = .returned (.tuple #[.agg (bArr b A b.es.length c), .bool true]) ∧ b.es.length ≤ c ∧ St w0 w' (evIt A b.es :: I)
theorem VPost.mk {w0 w : World} {I : List It} {b : BM} {A : Option Addr} {c : Nat} (hc : b.es.length ≤ c) (H : St w0 w (evIt A b.es :: I)) : VPost w0 I b (.returned (.tuple #[.agg (bArr b A b.es.length c), .bool true])) w := ⟨A, c, rfl, hc, H⟩
/-- no events -/
theorem St.noEv {w0 w : World} {I : List It} (H : St w0 w I) : St w0 w (evIt none [] :: I) := H.old (s := 6) (n := 0) (A := none) (xs := []) Reads.none_
theorem made_of (p : Int) (h0 : 0 ≤ p) (h1 : p < 1000) : BM.makeR BM.zero (1 + p) = (BM.made (1 + p), 0) := by
  unfold BM.makeR
  rw [if_neg (by omega), if_neg (by simp [BM.zero]), if_neg (by simp [BM.zero]; omega)]
set_option maxRecDepth 100000 in
set_option maxHeartbeats 8000000 in
theorem served_st {w0 w : World} {I : List It} (ep : Int) (A : Option Addr) (n c most : Nat) (rows : List (List Int)) (h64 : Is64 ep) (h : IsRows 4 32 w0 A n c rows) (hmost : most ≤ 60) (H : St w0 w I) :
    Calls Try.prog 15 #[.int .i64 ep, .slice A n c, .int .i64 most] w (VPost w0 I (servedN (1 + pick ep 1000) rows (min n most))) := by
  obtain ⟨h01, h02⟩ := h64
  have PC := Lib.hid (fun W => (picked_any ep 1000 W h01 h02 (by omega) (by omega)).mono (fun e w' h => (⟨h.1, h.2.symm⟩ : e = .returned (.int .i64 (pick ep 1000)) ∧ w' = W)))
  have p0 := pick_lo ep 1000 (by omega)
  have p1 := pick_hi ep 1000 (by omega)
  generalize pick ep 1000 = p at *
  have OK := Lib.hid (fun k => servedN_ok (1 + p) rows (by omega) (by omega) k)
  have MC := Lib.hid (fun W J (H : St w0 W J) (hI : Has J (evIt none [])) => (show Calls Try.prog 23 #[.agg #[.int .i64 0, .int .i64 0, .int .i64 0, .int .i64 0, .int .i64 0, .slice none 0 0], .int .i64 (1 + p)] W (fun ed w' => ∃ A c, ed = .returned (.tuple #[.agg #[.int .i64 1, .int .i64 (1 + p), .int .i64 0, .int .i64 0, .int .i64 0, .slice A 0 c], .int .i64 0]) ∧ 0 ≤ c ∧ St w0 w' (evIt A [] :: J)) from by
    have h := make_st (h := hI) BM.zero none 0 0 0 (1 + p) rfl BM.zero_ok (by omega) (Nat.le_refl _) H
    rw [made_of p p0 p1] at h
    exact h))
  have w1 : IntKind.i64.wrap (1 + p) = 1 + p := IntWalk.i64_in _ (by omega)
  have HF := Lib.hid (fun W A' c' (h1 : (servedN (1 + p) rows (min n most)).es.length ≤ c') (h2 : St w0 W (evIt A' (servedN (1 + p) rows (min n most)).es :: I)) => VPost.mk h1 h2)
  generalize VPost w0 I (servedN (1 + p) rows (min n most)) = POST at *
  have HRW := Lib.hid h
  clear h
  go_enter Try.func15, Try.ntmps15
  go_upto_region 1 with (first
    | ((with_reducible refine here_load ?_); first | (refine wpList_load_st H rfl 46 _ rfl rfl row_Queue (by kernel_rfl) ?_) | (refine wpList_load_st H rfl 50 _ rfl rfl row_Answer (by kernel_rfl) ?_) | (refine wpList_load_st H rfl 37 _ rfl rfl row_Event (by kernel_rfl) ?_) | (refine wpList_load_st H rfl 27 _ rfl rfl row_Berth (by kernel_rfl) ?_) | (refine wpList_load1_st H rfl 3 _ rfl rfl sc_int (by rfl) ?_) | (refine wpList_load1_stG H (by rfl) 3 _ rfl rfl sc_int (by rfl) ?_) | (refine wpList_load1_st H rfl 4 _ rfl rfl sc_bool (by rfl) ?_) | (refine wpList_load1_stG H (by rfl) 4 _ rfl rfl sc_bool (by rfl) ?_) | (refine wpList_load1_st H rfl 30 _ rfl rfl sc_Errno (by rfl) ?_) | (refine wpList_load1_stG H (by rfl) 30 _ rfl rfl sc_Errno (by rfl) ?_) | (refine wpList_load1_st H rfl 25 _ rfl rfl sc_Evs (by rfl) ?_) | (refine wpList_load1_stG H (by rfl) 25 _ rfl rfl sc_Evs (by rfl) ?_))
    | ((with_reducible refine here_store ?_); first | (refine wpList_store_st H rfl 46 _ _ rfl rfl rfl (by kernel_rfl) (by rfl) (by kernel_rfl) ?_; clear H; intro wx H) | (refine wpList_store_st H rfl 50 _ _ rfl rfl rfl (by kernel_rfl) (by rfl) (by kernel_rfl) ?_; clear H; intro wx H) | (refine wpList_store_st H rfl 37 _ _ rfl rfl rfl (by kernel_rfl) (by rfl) (by kernel_rfl) ?_; clear H; intro wx H) | (refine wpList_store_st H rfl 27 _ _ rfl rfl rfl (by kernel_rfl) (by rfl) (by kernel_rfl) ?_; clear H; intro wx H) | (refine wpList_store1_st H rfl 3 _ _ rfl rfl _ rfl (by rfl) s1_int (by rfl) (by rfl) ?_; clear H; intro wx H) | (refine wpList_store1_st H rfl 4 _ _ rfl rfl _ rfl (by rfl) s1_bool (by rfl) (by rfl) ?_; clear H; intro wx H) | (refine wpList_store1_st H rfl 30 _ _ rfl rfl _ rfl (by rfl) s1_Errno (by rfl) (by rfl) ?_; clear H; intro wx H) | (refine wpList_store1_st H rfl 25 _ _ rfl rfl _ rfl (by rfl) s1_Evs (by rfl) (by rfl) ?_; clear H; intro wx H))
    | ((with_reducible refine here_alloc ?_); first | (refine wpList_alloc_st H rfl 46 rfl _ q_zero ?_; clear H; intro gq wx H) | (refine wpList_alloc_st H rfl 50 rfl _ ans_zero ?_; clear H; intro ga wx H) | (refine wpList_alloc_st H rfl 37 rfl _ ev_zero ?_; clear H; intro ge wx H) | (refine wpList_alloc_st H rfl 27 rfl _ ber_zero ?_; clear H; intro gr wx H))
    | ((with_reducible refine here_box ?_); first | (refine wpList_box_st H rfl _ _ rfl _ rfl ?_; clear H; intro gb wx H)))
  go_upto_region 5 with (first | (go_at_call 17; refine (PC.out _).mono ?_; rintro ed wy ⟨rfl, rfl⟩) | (go_at_call 23; replace H := H.noEv; refine (MC.out _ _ H inferInstance).mono ?_; clear H; rintro ed wy ⟨A9, c9, rfl, hc9, H⟩) | (first
    | ((with_reducible refine here_load ?_); first | (refine wpList_load_st H rfl 46 _ rfl rfl row_Queue (by kernel_rfl) ?_) | (refine wpList_load_st H rfl 50 _ rfl rfl row_Answer (by kernel_rfl) ?_) | (refine wpList_load_st H rfl 37 _ rfl rfl row_Event (by kernel_rfl) ?_) | (refine wpList_load_st H rfl 27 _ rfl rfl row_Berth (by kernel_rfl) ?_) | (refine wpList_load1_st H rfl 3 _ rfl rfl sc_int (by rfl) ?_) | (refine wpList_load1_stG H (by rfl) 3 _ rfl rfl sc_int (by rfl) ?_) | (refine wpList_load1_st H rfl 4 _ rfl rfl sc_bool (by rfl) ?_) | (refine wpList_load1_stG H (by rfl) 4 _ rfl rfl sc_bool (by rfl) ?_) | (refine wpList_load1_st H rfl 30 _ rfl rfl sc_Errno (by rfl) ?_) | (refine wpList_load1_stG H (by rfl) 30 _ rfl rfl sc_Errno (by rfl) ?_) | (refine wpList_load1_st H rfl 25 _ rfl rfl sc_Evs (by rfl) ?_) | (refine wpList_load1_stG H (by rfl) 25 _ rfl rfl sc_Evs (by rfl) ?_))
    | ((with_reducible refine here_store ?_); first | (refine wpList_store_st H rfl 46 _ _ rfl rfl rfl (by kernel_rfl) (by rfl) (by kernel_rfl) ?_; clear H; intro wx H) | (refine wpList_store_st H rfl 50 _ _ rfl rfl rfl (by kernel_rfl) (by rfl) (by kernel_rfl) ?_; clear H; intro wx H) | (refine wpList_store_st H rfl 37 _ _ rfl rfl rfl (by kernel_rfl) (by rfl) (by kernel_rfl) ?_; clear H; intro wx H) | (refine wpList_store_st H rfl 27 _ _ rfl rfl rfl (by kernel_rfl) (by rfl) (by kernel_rfl) ?_; clear H; intro wx H) | (refine wpList_store1_st H rfl 3 _ _ rfl rfl _ rfl (by rfl) s1_int (by rfl) (by rfl) ?_; clear H; intro wx H) | (refine wpList_store1_st H rfl 4 _ _ rfl rfl _ rfl (by rfl) s1_bool (by rfl) (by rfl) ?_; clear H; intro wx H) | (refine wpList_store1_st H rfl 30 _ _ rfl rfl _ rfl (by rfl) s1_Errno (by rfl) (by rfl) ?_; clear H; intro wx H) | (refine wpList_store1_st H rfl 25 _ _ rfl rfl _ rfl (by rfl) s1_Evs (by rfl) (by rfl) ?_; clear H; intro wx H))
    | ((with_reducible refine here_alloc ?_); first | (refine wpList_alloc_st H rfl 46 rfl _ q_zero ?_; clear H; intro gq2 wx H) | (refine wpList_alloc_st H rfl 50 rfl _ ans_zero ?_; clear H; intro ga2 wx H) | (refine wpList_alloc_st H rfl 37 rfl _ ev_zero ?_; clear H; intro ge2 wx H) | (refine wpList_alloc_st H rfl 27 rfl _ ber_zero ?_; clear H; intro gr2 wx H))
    | ((with_reducible refine here_box ?_); first | (refine wpList_box_st H rfl _ _ rfl _ rfl ?_; clear H; intro gb2 wx H))))
  go_loopw [10] (fun s10 wr => ∃ (k : Nat) (Ab : Option Addr) (cb : Nat), k ≤ n ∧ k ≤ most ∧ s10 = .int .i64 k ∧ (servedN (1 + p) rows k).es.length ≤ cb ∧ St w0 wr (.bl gr2 27 (bArr (servedN (1 + p) rows k) Ab (servedN (1 + p) rows k).es.length cb) :: evIt Ab (servedN (1 + p) rows k).es :: .bl gr 27 #[.int .i64 0, .int .i64 0, .int .i64 0, .int .i64 0, .int .i64 0, .slice none 0 0] :: I)) (fun s10 _ => n - (intOf s10).toNat)
  case atStart => exact ⟨0, A9, c9, by omega, by omega, rfl, hc9, H.subm (.bl gr2 27 #[.int .i64 1, .int .i64 (1 + p), .int .i64 0, .int .i64 0, .int .i64 0, .slice A9 0 c9] :: evIt A9 [] :: .bl gr 27 #[.int .i64 0, .int .i64 0, .int .i64 0, .int .i64 0, .int .i64 0, .slice none 0 0] :: I)⟩
  case round =>
    clear H hc9 MC PC
    obtain ⟨k, Ab, cb, hk, hk2, rfl, hcb, H⟩ := hrel
    by_cases hlt : k < n ∧ k < most
    · obtain ⟨hl, hnc, hcbig, hr, hs⟩ := HRW.out
      obtain ⟨b8, off, rfl, hb8, g1, l1⟩ := row4q hl hs hr hlt.1
      have EC := Lib.hid (fun W => (show Calls Try.prog 18 #[.agg #[.int .i64 ((rows.getD k []).getD 0 0), .int .i64 ((rows.getD k []).getD 1 0), .int .i64 ((rows.getD k []).getD 2 0), .int .i64 ((rows.getD k []).getD 3 0)]] W (Puts W (evIn rows k).val) from event_any _ _ _ _ W (l1 0) (l1 1) (l1 2) (l1 3)))
      have hck : (evIn rows k).check = 0 := evOf_chk _ _ _ _
      have q0 := (H.bel.cell (p := ⟨b8, off + k * 4, none⟩) hb8).trans (g1 0 (by omega))
      have q1 := (H.bel.cell (p := ⟨b8, off + k * 4 + 1, none⟩) hb8).trans (g1 1 (by omega))
      have q2 := (H.bel.cell (p := ⟨b8, off + k * 4 + 2, none⟩) hb8).trans (g1 2 (by omega))
      have q3 := (H.bel.cell (p := ⟨b8, off + k * 4 + 3, none⟩) hb8).trans (g1 3 (by omega))
      have HN := Lib.hid (show servedN (1 + p) rows (k + 1) = (servedN (1 + p) rows k).take (evIn rows k) from rfl)
      have hb := (OK.out k).1
      generalize evIn rows k = ev at *
      generalize (rows.getD k []).getD 0 0 = z0 at *
      generalize (rows.getD k []).getD 1 0 = z1 at *
      generalize (rows.getD k []).getD 2 0 = z2 at *
      generalize (rows.getD k []).getD 3 0 = z3 at *
      obtain ⟨b, hbe⟩ : ∃ b, servedN (1 + p) rows k = b := ⟨_, rfl⟩
      have HBE := Lib.hid hbe
      rw [hbe] at hcb H HN hb
      have hbl := hb.len
      have hI1 : (k : Int) < (n : Int) := by omega
      have hI2 : (k : Int) < (most : Int) := by omega
      have hI0 : (0 : Int) ≤ (k : Int) := by omega
      have hncI : (n : Int) ≤ (c : Int) := by omega
      have i1 : IntKind.i64.wrap ((k : Int) + 1) = (k : Int) + 1 := IntWalk.i64_in _ (by omega)
      have HLT := Lib.hid hlt
      clear g1 l1 hl hnc hcbig hr hs hb8 hbe hlt
      by_cases hk4 : ev.kind = 4
      · have HX := Lib.hid (show servedN (1 + p) rows (k + 1) = b from by rw [HN.out]; unfold BM.take; rw [if_pos hk4])
        obtain ⟨x0, x1, x2, x3, x4, x5⟩ := ev
        dsimp only at hk4
        subst hk4
        unfold Ev.val at EC
        go_wp2_with (first | (go_at_call 18; refine (EC.out _).mono ?_; rintro ed wy ⟨rfl, hb9⟩; replace H := H.below hb9; clear hb9 q0 q1 q2 q3) | (first
    | ((with_reducible refine here_load ?_); first | (refine wpList_load_st H rfl 46 _ rfl rfl row_Queue (by kernel_rfl) ?_) | (refine wpList_load_st H rfl 50 _ rfl rfl row_Answer (by kernel_rfl) ?_) | (refine wpList_load_st H rfl 37 _ rfl rfl row_Event (by kernel_rfl) ?_) | (refine wpList_load_st H rfl 27 _ rfl rfl row_Berth (by kernel_rfl) ?_) | (refine wpList_load1_st H rfl 3 _ rfl rfl sc_int (by rfl) ?_) | (refine wpList_load1_stG H (by rfl) 3 _ rfl rfl sc_int (by rfl) ?_) | (refine wpList_load1_st H rfl 4 _ rfl rfl sc_bool (by rfl) ?_) | (refine wpList_load1_stG H (by rfl) 4 _ rfl rfl sc_bool (by rfl) ?_) | (refine wpList_load1_st H rfl 30 _ rfl rfl sc_Errno (by rfl) ?_) | (refine wpList_load1_stG H (by rfl) 30 _ rfl rfl sc_Errno (by rfl) ?_) | (refine wpList_load1_st H rfl 25 _ rfl rfl sc_Evs (by rfl) ?_) | (refine wpList_load1_stG H (by rfl) 25 _ rfl rfl sc_Evs (by rfl) ?_))
    | ((with_reducible refine here_store ?_); first | (refine wpList_store_st H rfl 46 _ _ rfl rfl rfl (by kernel_rfl) (by rfl) (by kernel_rfl) ?_; clear H; intro wx H) | (refine wpList_store_st H rfl 50 _ _ rfl rfl rfl (by kernel_rfl) (by rfl) (by kernel_rfl) ?_; clear H; intro wx H) | (refine wpList_store_st H rfl 37 _ _ rfl rfl rfl (by kernel_rfl) (by rfl) (by kernel_rfl) ?_; clear H; intro wx H) | (refine wpList_store_st H rfl 27 _ _ rfl rfl rfl (by kernel_rfl) (by rfl) (by kernel_rfl) ?_; clear H; intro wx H) | (refine wpList_store1_st H rfl 3 _ _ rfl rfl _ rfl (by rfl) s1_int (by rfl) (by rfl) ?_; clear H; intro wx H) | (refine wpList_store1_st H rfl 4 _ _ rfl rfl _ rfl (by rfl) s1_bool (by rfl) (by rfl) ?_; clear H; intro wx H) | (refine wpList_store1_st H rfl 30 _ _ rfl rfl _ rfl (by rfl) s1_Errno (by rfl) (by rfl) ?_; clear H; intro wx H) | (refine wpList_store1_st H rfl 25 _ _ rfl rfl _ rfl (by rfl) s1_Evs (by rfl) (by rfl) ?_; clear H; intro wx H))
    | ((with_reducible refine here_alloc ?_); first | (refine wpList_alloc_st H rfl 46 rfl _ q_zero ?_; clear H; intro gq3 wx H) | (refine wpList_alloc_st H rfl 50 rfl _ ans_zero ?_; clear H; intro ga3 wx H) | (refine wpList_alloc_st H rfl 37 rfl _ ev_zero ?_; clear H; intro ge3 wx H) | (refine wpList_alloc_st H rfl 27 rfl _ ber_zero ?_; clear H; intro gr3 wx H))
    | ((with_reducible refine here_box ?_); first | (refine wpList_box_st H rfl _ _ rfl _ rfl ?_; clear H; intro gb3 wx H))))
        go_roundw
        case rel => exact ⟨k + 1, Ab, cb, by have := HLT.out; omega, by have := HLT.out; omega, by go_num, by rw [HX.out]; exact hcb, by rw [HX.out]; exact H.subm _⟩
        case measure => have := HLT.out; simp [intOf]; omega
      · have HX := Lib.hid (show servedN (1 + p) rows (k + 1) = (b.serve ev).1 from by rw [HN.out]; unfold BM.take; rw [if_neg hk4])
        have SC := Lib.hid (fun W J H (hI : Has J (evIt Ab b.es)) => serve_st (w0 := w0) (w := W) (I := J) b ev Ab b.es.length cb k rfl hb (by omega) hcb hck hk4 H)
        have hsl := b.serve_len ev
        obtain ⟨r, hr⟩ : ∃ r, b.serve ev = r := ⟨_, rfl⟩
        rw [hr] at SC HX hsl
        obtain ⟨b', ⟨a0, a1, a2, a3⟩, chg⟩ := r
        dsimp only at hsl HX
        obtain ⟨x0, x1, x2, x3, x4, x5⟩ := ev
        have k1 : ((x0 : Int) == 4) = false := by simpa using hk4
        have k2 : decide ((x0 : Int) = 4) = false := by simpa using hk4
        unfold SPost QA.val ansV at SC
        dsimp only at SC
        unfold Ev.val at EC SC
        dsimp only at EC SC
        clear hr hk4 hck hb
        cases chg
        · have hsl2 : b'.es.length = b.es.length := by simpa using hsl
          have hne : ¬ (b.es.length : Int) = (b.es.length : Int) + 1 := by omega
          have hne2 : ((b.es.length : Int) == (b.es.length : Int) + 1) = false := beq_eq_false_iff_ne.2 hne
          have hne3 : decide ((b.es.length : Int) = (b.es.length : Int) + 1) = false := decide_eq_false hne
          have i2 : IntKind.i64.wrap ((b.es.length : Int) + 1) = (b.es.length : Int) + 1 := IntWalk.i64_in _ (by omega)
          rw [hsl2] at SC
          clear hsl
          go_wp2_with (first | (go_at_call 18; refine (EC.out _).mono ?_; rintro ed wy ⟨rfl, hb9⟩; replace H := H.below hb9; clear hb9 q0 q1 q2 q3) | (go_at_call 21; refine (SC.out _ _ H inferInstance).mono ?_; clear H; rintro ed wy ⟨A9, c9, rfl, hc9, H⟩) | (first
    | ((with_reducible refine here_load ?_); first | (refine wpList_load_st H rfl 46 _ rfl rfl row_Queue (by kernel_rfl) ?_) | (refine wpList_load_st H rfl 50 _ rfl rfl row_Answer (by kernel_rfl) ?_) | (refine wpList_load_st H rfl 37 _ rfl rfl row_Event (by kernel_rfl) ?_) | (refine wpList_load_st H rfl 27 _ rfl rfl row_Berth (by kernel_rfl) ?_) | (refine wpList_load1_st H rfl 3 _ rfl rfl sc_int (by rfl) ?_) | (refine wpList_load1_stG H (by rfl) 3 _ rfl rfl sc_int (by rfl) ?_) | (refine wpList_load1_st H rfl 4 _ rfl rfl sc_bool (by rfl) ?_) | (refine wpList_load1_stG H (by rfl) 4 _ rfl rfl sc_bool (by rfl) ?_) | (refine wpList_load1_st H rfl 30 _ rfl rfl sc_Errno (by rfl) ?_) | (refine wpList_load1_stG H (by rfl) 30 _ rfl rfl sc_Errno (by rfl) ?_) | (refine wpList_load1_st H rfl 25 _ rfl rfl sc_Evs (by rfl) ?_) | (refine wpList_load1_stG H (by rfl) 25 _ rfl rfl sc_Evs (by rfl) ?_))
    | ((with_reducible refine here_store ?_); first | (refine wpList_store_st H rfl 46 _ _ rfl rfl rfl (by kernel_rfl) (by rfl) (by kernel_rfl) ?_; clear H; intro wx H) | (refine wpList_store_st H rfl 50 _ _ rfl rfl rfl (by kernel_rfl) (by rfl) (by kernel_rfl) ?_; clear H; intro wx H) | (refine wpList_store_st H rfl 37 _ _ rfl rfl rfl (by kernel_rfl) (by rfl) (by kernel_rfl) ?_; clear H; intro wx H) | (refine wpList_store_st H rfl 27 _ _ rfl rfl rfl (by kernel_rfl) (by rfl) (by kernel_rfl) ?_; clear H; intro wx H) | (refine wpList_store1_st H rfl 3 _ _ rfl rfl _ rfl (by rfl) s1_int (by rfl) (by rfl) ?_; clear H; intro wx H) | (refine wpList_store1_st H rfl 4 _ _ rfl rfl _ rfl (by rfl) s1_bool (by rfl) (by rfl) ?_; clear H; intro wx H) | (refine wpList_store1_st H rfl 30 _ _ rfl rfl _ rfl (by rfl) s1_Errno (by rfl) (by rfl) ?_; clear H; intro wx H) | (refine wpList_store1_st H rfl 25 _ _ rfl rfl _ rfl (by rfl) s1_Evs (by rfl) (by rfl) ?_; clear H; intro wx H))
    | ((with_reducible refine here_alloc ?_); first | (refine wpList_alloc_st H rfl 46 rfl _ q_zero ?_; clear H; intro gq3 wx H) | (refine wpList_alloc_st H rfl 50 rfl _ ans_zero ?_; clear H; intro ga3 wx H) | (refine wpList_alloc_st H rfl 37 rfl _ ev_zero ?_; clear H; intro ge3 wx H) | (refine wpList_alloc_st H rfl 27 rfl _ ber_zero ?_; clear H; intro gr3 wx H))
    | ((with_reducible refine here_box ?_); first | (refine wpList_box_st H rfl _ _ rfl _ rfl ?_; clear H; intro gb3 wx H))))
          go_roundw
          case rel => exact ⟨k + 1, A9, c9, by have := HLT.out; omega, by have := HLT.out; omega, by go_num, by rw [HX.out, hsl2]; exact hc9, by rw [HX.out, hsl2]; exact H.subm _⟩
          case measure => have := HLT.out; simp [intOf]; omega
        · have hsl2 : b'.es.length = b.es.length + 1 := by simpa using hsl
          have i2 : IntKind.i64.wrap ((b.es.length : Int) + 1) = (b.es.length : Int) + 1 := IntWalk.i64_in _ (by omega)
          have i3 : ((b.es.length + 1 : Nat) : Int) = (b.es.length : Int) + 1 := by omega
          rw [hsl2] at SC
          clear hsl
          go_wp2_with (first | (go_at_call 18; refine (EC.out _).mono ?_; rintro ed wy ⟨rfl, hb9⟩; replace H := H.below hb9; clear hb9 q0 q1 q2 q3) | (go_at_call 21; refine (SC.out _ _ H inferInstance).mono ?_; clear H; rintro ed wy ⟨A9, c9, rfl, hc9, H⟩) | (first
    | ((with_reducible refine here_load ?_); first | (refine wpList_load_st H rfl 46 _ rfl rfl row_Queue (by kernel_rfl) ?_) | (refine wpList_load_st H rfl 50 _ rfl rfl row_Answer (by kernel_rfl) ?_) | (refine wpList_load_st H rfl 37 _ rfl rfl row_Event (by kernel_rfl) ?_) | (refine wpList_load_st H rfl 27 _ rfl rfl row_Berth (by kernel_rfl) ?_) | (refine wpList_load1_st H rfl 3 _ rfl rfl sc_int (by rfl) ?_) | (refine wpList_load1_stG H (by rfl) 3 _ rfl rfl sc_int (by rfl) ?_) | (refine wpList_load1_st H rfl 4 _ rfl rfl sc_bool (by rfl) ?_) | (refine wpList_load1_stG H (by rfl) 4 _ rfl rfl sc_bool (by rfl) ?_) | (refine wpList_load1_st H rfl 30 _ rfl rfl sc_Errno (by rfl) ?_) | (refine wpList_load1_stG H (by rfl) 30 _ rfl rfl sc_Errno (by rfl) ?_) | (refine wpList_load1_st H rfl 25 _ rfl rfl sc_Evs (by rfl) ?_) | (refine wpList_load1_stG H (by rfl) 25 _ rfl rfl sc_Evs (by rfl) ?_))
    | ((with_reducible refine here_store ?_); first | (refine wpList_store_st H rfl 46 _ _ rfl rfl rfl (by kernel_rfl) (by rfl) (by kernel_rfl) ?_; clear H; intro wx H) | (refine wpList_store_st H rfl 50 _ _ rfl rfl rfl (by kernel_rfl) (by rfl) (by kernel_rfl) ?_; clear H; intro wx H) | (refine wpList_store_st H rfl 37 _ _ rfl rfl rfl (by kernel_rfl) (by rfl) (by kernel_rfl) ?_; clear H; intro wx H) | (refine wpList_store_st H rfl 27 _ _ rfl rfl rfl (by kernel_rfl) (by rfl) (by kernel_rfl) ?_; clear H; intro wx H) | (refine wpList_store1_st H rfl 3 _ _ rfl rfl _ rfl (by rfl) s1_int (by rfl) (by rfl) ?_; clear H; intro wx H) | (refine wpList_store1_st H rfl 4 _ _ rfl rfl _ rfl (by rfl) s1_bool (by rfl) (by rfl) ?_; clear H; intro wx H) | (refine wpList_store1_st H rfl 30 _ _ rfl rfl _ rfl (by rfl) s1_Errno (by rfl) (by rfl) ?_; clear H; intro wx H) | (refine wpList_store1_st H rfl 25 _ _ rfl rfl _ rfl (by rfl) s1_Evs (by rfl) (by rfl) ?_; clear H; intro wx H))
    | ((with_reducible refine here_alloc ?_); first | (refine wpList_alloc_st H rfl 46 rfl _ q_zero ?_; clear H; intro gq3 wx H) | (refine wpList_alloc_st H rfl 50 rfl _ ans_zero ?_; clear H; intro ga3 wx H) | (refine wpList_alloc_st H rfl 37 rfl _ ev_zero ?_; clear H; intro ge3 wx H) | (refine wpList_alloc_st H rfl 27 rfl _ ber_zero ?_; clear H; intro gr3 wx H))
    | ((with_reducible refine here_box ?_); first | (refine wpList_box_st H rfl _ _ rfl _ rfl ?_; clear H; intro gb3 wx H))))
          go_roundw
          case rel => exact ⟨k + 1, A9, c9, by have := HLT.out; omega, by have := HLT.out; omega, by go_num, by rw [HX.out, hsl2]; exact hc9, by rw [HX.out, hsl2]; exact H.subm _⟩
          case measure => have := HLT.out; simp [intOf]; omega
    · have hkm : k = min n most := by omega
      have hor : ¬ (k : Int) < (n : Int) ∨ ((k : Int) < (n : Int) ∧ ¬ (k : Int) < (most : Int)) := by omega
      have HB := Lib.hid ((OK.out k).1.more (show k ≤ 60 by omega))
      rw [← hkm] at HF
      generalize servedN (1 + p) rows k = b at *
      clear hlt hkm
      rcases hor with hor | ⟨ho1, ho2⟩
      · have ho3 := decide_eq_false hor
        go_upto_region 13 with fail
        (try simp only [Act.put])
        refine startS (H.subm (.bl gr2 27 (bArr b Ab b.es.length cb) :: evIt Ab b.es :: I)) (by kernel_rfl) (fun HS => ?_)
        replace H := H.drew
        refine takeRow_st (i := 0) 27 _ rfl rfl rfl row_Berth (by kernel_rfl) (by kernel_rfl) (by kernel_rfl) (by kernel_rfl) (fun _ _ _ _ h => h) (by rfl) HS ?_
        (try simp only [Act.put, List.setIfInBounds_toArray, List.set_cons_zero, List.set_cons_succ])
        refine takeRow_st (i := 1) 27 _ rfl rfl rfl row_Berth (by kernel_rfl) (by kernel_rfl) (by kernel_rfl) (by kernel_rfl) (fun _ _ _ _ h => h) (by rfl) HS ?_
        (try simp only [Act.put, List.setIfInBounds_toArray, List.set_cons_zero, List.set_cons_succ])
        refine branchH [2] (by kernel_rfl) (by kernel_rfl) (AllStep.cons ?_ AllStep.nil)
        refine stepH_do (i := 2) rfl (by rfl) ?_
        refine wp_call_st rfl Try.func33 (by kernel_rfl) (by kernel_rfl) _ ?_ ((check_st b Ab b.es.length cb 60 rfl HB.out (by omega) hcb H).mono ?_)
        · rfl
        clear H
        rintro ed wy ⟨rfl, H⟩
        replace HS := HS.of H
        refine ⟨_, rfl, HS, ?_⟩
        (try simp only [Act.put, List.setIfInBounds_toArray, List.set_cons_zero, List.set_cons_succ])
        refine takeV (i := 3) (v := ?_) rfl (by kernel_rfl) (by kernel_rfl) (by kernel_rfl) (fun _ _ _ h => h) (by rfl) ?_ HS ?_
        rotate_left
        · (intro W hW; go_simp; try with_reducible rfl)
        (try simp only [Act.put, List.setIfInBounds_toArray, List.set_cons_zero, List.set_cons_succ])
        refine branchH [4] (by kernel_rfl) (by kernel_rfl) (AllStep.cons ?_ AllStep.nil)
        refine stepH_do (i := 4) rfl (by rfl) ?_
        refine wp_store_st H 27 _ _ rfl rfl rfl (by kernel_rfl) (by rfl) (by kernel_rfl) ?_
        clear H
        intro wx H
        replace HS := HS.of H
        refine ⟨HS, ?_⟩
        (try simp only [Act.put])
        refine takeAssign (i := 5) rfl rfl _ (by rfl) (by kernel_rfl) (by kernel_rfl) (by kernel_rfl) (fun _ _ _ _ h => h) (by rfl) HS ?_
        (try simp only [Act.put, List.setIfInBounds_toArray, List.set_cons_zero, List.set_cons_succ])
        refine doneH (by kernel_rfl) ?_
        go_wp2_with fail
        have l4 : (loadVar 27 ⟨gr, 0, none⟩).run Try.prog wx = .ok (.agg (bArr b Ab b.es.length cb)) wx := H.loadRow 27 gr row_Berth (P := Try.prog) (by kernel_rfl)
        exact bodyPost_ret (v := .tuple #[.agg (bArr b Ab b.es.length cb), .bool true]) (by simp [results, Try.results15, asAddr, l4]) rfl (HF.out _ _ _ hcb (H.subm _))
      · have ho3 := decide_eq_true ho1
        have ho4 := decide_eq_false ho2
        go_upto_region 13 with fail
        (try simp only [Act.put])
        refine startS (H.subm (.bl gr2 27 (bArr b Ab b.es.length cb) :: evIt Ab b.es :: I)) (by kernel_rfl) (fun HS => ?_)
        replace H := H.drew
        refine takeRow_st (i := 0) 27 _ rfl rfl rfl row_Berth (by kernel_rfl) (by kernel_rfl) (by kernel_rfl) (by kernel_rfl) (fun _ _ _ _ h => h) (by rfl) HS ?_
        (try simp only [Act.put, List.setIfInBounds_toArray, List.set_cons_zero, List.set_cons_succ])
        refine takeRow_st (i := 1) 27 _ rfl rfl rfl row_Berth (by kernel_rfl) (by kernel_rfl) (by kernel_rfl) (by kernel_rfl) (fun _ _ _ _ h => h) (by rfl) HS ?_
        (try simp only [Act.put, List.setIfInBounds_toArray, List.set_cons_zero, List.set_cons_succ])
        refine branchH [2] (by kernel_rfl) (by kernel_rfl) (AllStep.cons ?_ AllStep.nil)
        refine stepH_do (i := 2) rfl (by rfl) ?_
        refine wp_call_st rfl Try.func33 (by kernel_rfl) (by kernel_rfl) _ ?_ ((check_st b Ab b.es.length cb 60 rfl HB.out (by omega) hcb H).mono ?_)
        · rfl
        clear H
        rintro ed wy ⟨rfl, H⟩
        replace HS := HS.of H
        refine ⟨_, rfl, HS, ?_⟩
        (try simp only [Act.put, List.setIfInBounds_toArray, List.set_cons_zero, List.set_cons_succ])
        refine takeV (i := 3) (v := ?_) rfl (by kernel_rfl) (by kernel_rfl) (by kernel_rfl) (fun _ _ _ h => h) (by rfl) ?_ HS ?_
        rotate_left
        · (intro W hW; go_simp; try with_reducible rfl)
        (try simp only [Act.put, List.setIfInBounds_toArray, List.set_cons_zero, List.set_cons_succ])
        refine branchH [4] (by kernel_rfl) (by kernel_rfl) (AllStep.cons ?_ AllStep.nil)
        refine stepH_do (i := 4) rfl (by rfl) ?_
        refine wp_store_st H 27 _ _ rfl rfl rfl (by kernel_rfl) (by rfl) (by kernel_rfl) ?_
        clear H
        intro wx H
        replace HS := HS.of H
        refine ⟨HS, ?_⟩
        (try simp only [Act.put])
        refine takeAssign (i := 5) rfl rfl _ (by rfl) (by kernel_rfl) (by kernel_rfl) (by kernel_rfl) (fun _ _ _ _ h => h) (by rfl) HS ?_
        (try simp only [Act.put, List.setIfInBounds_toArray, List.set_cons_zero, List.set_cons_succ])
        refine doneH (by kernel_rfl) ?_
        go_wp2_with fail
        have l4 : (loadVar 27 ⟨gr, 0, none⟩).run Try.prog wx = .ok (.agg (bArr b Ab b.es.length cb)) wx := H.loadRow 27 gr row_Berth (P := Try.prog) (by kernel_rfl)
        exact bodyPost_ret (v := .tuple #[.agg (bArr b Ab b.es.length cb), .bool true]) (by simp [results, Try.results15, asAddr, l4]) rfl (HF.out _ _ _ hcb (H.subm _))

end Go.Proofs.Ytjgbkicnagcmdaa
