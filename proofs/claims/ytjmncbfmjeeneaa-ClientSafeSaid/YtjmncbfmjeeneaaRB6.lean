/- served: a berth that was made, and has served some events. And more of what the proof stands on. -/
import Derived.Deep.QuietTactic
import Derived.BigQuiet
import Derived.Test.YtjmncbfmjeeneaaRB5

namespace Go.Proofs.Ytjmncbfmjeeneaa
open Go.RowKit

/-- a berth that is well is returned -/
def VPost (w0 : World) (I : List It) (b : BM) (ed : Ending) (w' : World) : Prop :=
  ∃ A c, ed = .returned (.tuple #[.agg (bArr b A b.es.length c), .bool true]) ∧ b.es.length ≤ c ∧ St w0 w' (evIt A b.es :: I)
theorem VPost.mk {w0 w : World} {I : List It} {b : BM} {A : Option Addr} {c : Nat} (hc : b.es.length ≤ c) (H : St w0 w (evIt A b.es :: I)) : VPost w0 I b (.returned (.tuple #[.agg (bArr b A b.es.length c), .bool true])) w := ⟨A, c, rfl, hc, H⟩
/-- no events -/
theorem St.noEv {w0 w : World} {I : List It} (H : St w0 w I) : St w0 w (evIt none [] :: I) := H.old (s := 6) (n := 0) (A := none) (xs := []) Reads.none_
theorem made_of (p : Int) (h0 : 0 ≤ p) (h1 : p < 1000) : BM.makeR BM.zero (1 + p) = (BM.made (1 + p), 0) := by
  unfold BM.makeR
  rw [if_neg (by omega), if_neg (by simp [BM.zero]), if_neg (by simp [BM.zero]; omega)]
set_option maxRecDepth 100000 in
set_option maxHeartbeats 8000000 in
theorem served_st {w0 w : World} {I : List It} (ep : Int) (A : Option Addr) (n c most : Nat) (rows : List (List Int)) (h64 : Is64 ep) (h : IsRows 4 32 w0 A n c rows) (hmost : most ≤ 60) (H : St w0 w I) :
    Calls Try.prog 16 #[.int .i64 ep, .slice A n c, .int .i64 most] w (VPost w0 I (servedN (1 + pick ep 1000) rows (min n most))) := by
  obtain ⟨h01, h02⟩ := h64
  have PC := Lib.hid (fun W => (picked_any ep 1000 W h01 h02 (by omega) (by omega)).mono (fun e w' h => (⟨h.1, h.2.symm⟩ : e = .returned (.int .i64 (pick ep 1000)) ∧ w' = W)))
  have p0 := pick_lo ep 1000 (by omega)
  have p1 := pick_hi ep 1000 (by omega)
  generalize pick ep 1000 = p at *
  have OK := Lib.hid (fun k => servedN_ok (1 + p) rows (by omega) (by omega) k)
  have MC := Lib.hid (fun W J (H : St w0 W J) (hI : Has J (evIt none [])) => (show Calls Try.prog 38 #[.agg #[.int .i64 0, .int .i64 0, .int .i64 0, .int .i64 0, .int .i64 0, .slice none 0 0], .int .i64 (1 + p)] W (fun ed w' => ∃ A c, ed = .returned (.tuple #[.agg #[.int .i64 1, .int .i64 (1 + p), .int .i64 0, .int .i64 0, .int .i64 0, .slice A 0 c], .int .i64 0]) ∧ 0 ≤ c ∧ St w0 w' (evIt A [] :: J)) from by
    have h := make_st (h := hI) BM.zero none 0 0 0 (1 + p) rfl BM.zero_ok (by omega) (Nat.le_refl _) H
    rw [made_of p p0 p1] at h
    exact h))
  have w1 : IntKind.i64.wrap (1 + p) = 1 + p := IntWalk.i64_in _ (by omega)
  have HF := Lib.hid (fun W A' c' (h1 : (servedN (1 + p) rows (min n most)).es.length ≤ c') (h2 : St w0 W (evIt A' (servedN (1 + p) rows (min n most)).es :: I)) => VPost.mk h1 h2)
  generalize VPost w0 I (servedN (1 + p) rows (min n most)) = POST at *
  have HRW := Lib.hid h
  clear h
  go_enter Try.func16, Try.ntmps16
  go_upto_region 1 with (first | ((with_reducible refine here_load ?_); first | refine ldR H rfl _ _ rfl rfl (by kernel_rfl) ?_ | refine ldS H rfl _ _ rfl rfl (by rfl) ?_ | refine ldSG H (by rfl) _ _ rfl rfl (by rfl) ?_ | refine ldRG H (by rfl) _ _ rfl rfl (by kernel_rfl) ?_) | ((with_reducible refine here_store ?_); first | (refine stR H rfl _ _ _ rfl rfl rfl (by rfl) (by rfl) (by kernel_rfl) ?_; clear H; intro wx H) | (refine stS H rfl _ _ _ rfl rfl _ rfl (by rfl) (by rfl) (by rfl) ?_; clear H; intro wx H)) | ((with_reducible refine here_alloc ?_); first | (refine wpList_alloc_st H rfl 37 rfl _ q_zero ?_; clear H; intro gq wx H) | (refine wpList_alloc_st H rfl 48 rfl _ ans_zero ?_; clear H; intro ga wx H) | (refine wpList_alloc_st H rfl 44 rfl _ ev_zero ?_; clear H; intro ge wx H) | (refine wpList_alloc_st H rfl 58 rfl _ ber_zero ?_; clear H; intro gr wx H)) | ((with_reducible refine here_box ?_); refine wpList_box_st H rfl _ _ rfl _ rfl ?_; clear H; intro gb wx H))
  go_upto_region 5 with (first | (go_at_call 10; refine (PC.out _).mono ?_; rintro ed wy ⟨rfl, rfl⟩) | (go_at_call 38; replace H := H.noEv; refine (MC.out _ _ H inferInstance).mono ?_; clear H; rintro ed wy ⟨A9, c9, rfl, hc9, H⟩) | (first | ((with_reducible refine here_load ?_); first | refine ldR H rfl _ _ rfl rfl (by kernel_rfl) ?_ | refine ldS H rfl _ _ rfl rfl (by rfl) ?_ | refine ldSG H (by rfl) _ _ rfl rfl (by rfl) ?_ | refine ldRG H (by rfl) _ _ rfl rfl (by kernel_rfl) ?_) | ((with_reducible refine here_store ?_); first | (refine stR H rfl _ _ _ rfl rfl rfl (by rfl) (by rfl) (by kernel_rfl) ?_; clear H; intro wx H) | (refine stS H rfl _ _ _ rfl rfl _ rfl (by rfl) (by rfl) (by rfl) ?_; clear H; intro wx H)) | ((with_reducible refine here_alloc ?_); first | (refine wpList_alloc_st H rfl 37 rfl _ q_zero ?_; clear H; intro gq2 wx H) | (refine wpList_alloc_st H rfl 48 rfl _ ans_zero ?_; clear H; intro ga2 wx H) | (refine wpList_alloc_st H rfl 44 rfl _ ev_zero ?_; clear H; intro ge2 wx H) | (refine wpList_alloc_st H rfl 58 rfl _ ber_zero ?_; clear H; intro gr2 wx H)) | ((with_reducible refine here_box ?_); refine wpList_box_st H rfl _ _ rfl _ rfl ?_; clear H; intro gb2 wx H)))
  go_loopw [10] (fun s10 wr => ∃ (k : Nat) (Ab : Option Addr) (cb : Nat), k ≤ n ∧ k ≤ most ∧ s10 = .int .i64 k ∧ (servedN (1 + p) rows k).es.length ≤ cb ∧ St w0 wr (.bl gr2 58 (bArr (servedN (1 + p) rows k) Ab (servedN (1 + p) rows k).es.length cb) :: evIt Ab (servedN (1 + p) rows k).es :: .bl gr 58 #[.int .i64 0, .int .i64 0, .int .i64 0, .int .i64 0, .int .i64 0, .slice none 0 0] :: I)) (fun s10 _ => n - (intOf s10).toNat)
  case atStart => exact ⟨0, A9, c9, by omega, by omega, rfl, hc9, H.subm (.bl gr2 58 #[.int .i64 1, .int .i64 (1 + p), .int .i64 0, .int .i64 0, .int .i64 0, .slice A9 0 c9] :: evIt A9 [] :: .bl gr 58 #[.int .i64 0, .int .i64 0, .int .i64 0, .int .i64 0, .int .i64 0, .slice none 0 0] :: I)⟩
  case round =>
    clear H hc9 MC PC
    obtain ⟨k, Ab, cb, hk, hk2, rfl, hcb, H⟩ := hrel
    by_cases hlt : k < n ∧ k < most
    · obtain ⟨hl, hnc, hcbig, hr, hs⟩ := HRW.out
      obtain ⟨b8, off, rfl, hb8, g1, l1⟩ := row4q hl hs hr hlt.1
      have EC := Lib.hid (fun W => (show Calls Try.prog 39 #[.agg #[.int .i64 ((rows.getD k []).getD 0 0), .int .i64 ((rows.getD k []).getD 1 0), .int .i64 ((rows.getD k []).getD 2 0), .int .i64 ((rows.getD k []).getD 3 0)]] W (Puts W (evIn rows k).val) from event_any _ _ _ _ W (l1 0) (l1 1) (l1 2) (l1 3)))
      have hck : (evIn rows k).check = 0 := evOf_chk _ _ _ _
      have q0 := (H.bel.cell (p := ⟨b8, off + k * 4, none⟩) hb8).trans (g1 0 (by omega))
      have q1 := (H.bel.cell (p := ⟨b8, off + k * 4 + 1, none⟩) hb8).trans (g1 1 (by omega))
      have q2 := (H.bel.cell (p := ⟨b8, off + k * 4 + 2, none⟩) hb8).trans (g1 2 (by omega))
      have q3 := (H.bel.cell (p := ⟨b8, off + k * 4 + 3, none⟩) hb8).trans (g1 3 (by omega))
      have HN := Lib.hid (show servedN (1 + p) rows (k + 1) = (servedN (1 + p) rows k).take (evIn rows k) from rfl)
      have hb := (OK.out k).1
      generalize evIn rows k = ev at *
      generalize (rows.getD k []).getD 0 0 = z0 at *
      generalize (rows.getD k []).getD 1 0 = z1 at *
      generalize (rows.getD k []).getD 2 0 = z2 at *
      generalize (rows.getD k []).getD 3 0 = z3 at *
      obtain ⟨b, hbe⟩ : ∃ b, servedN (1 + p) rows k = b := ⟨_, rfl⟩
      have HBE := Lib.hid hbe
      rw [hbe] at hcb H HN hb
      have hbl := hb.len
      have hI1 : (k : Int) < (n : Int) := by omega
      have hI2 : (k : Int) < (most : Int) := by omega
      have hI0 : (0 : Int) ≤ (k : Int) := by omega
      have hncI : (n : Int) ≤ (c : Int) := by omega
      have i1 : IntKind.i64.wrap ((k : Int) + 1) = (k : Int) + 1 := IntWalk.i64_in _ (by omega)
      have HLT := Lib.hid hlt
      clear g1 l1 hl hnc hcbig hr hs hb8 hbe hlt
      by_cases hk4 : ev.kind = 4
      · have HX := Lib.hid (show servedN (1 + p) rows (k + 1) = b from by rw [HN.out]; unfold BM.take; rw [if_pos hk4])
        obtain ⟨x0, x1, x2, x3, x4, x5⟩ := ev
        dsimp only at hk4
        subst hk4
        unfold Ev.val at EC
        go_wp2_with (first | (go_at_call 39; refine (EC.out _).mono ?_; rintro ed wy ⟨rfl, hb9⟩; replace H := H.below hb9; clear hb9 q0 q1 q2 q3) | (first | ((with_reducible refine here_load ?_); first | refine ldR H rfl _ _ rfl rfl (by kernel_rfl) ?_ | refine ldS H rfl _ _ rfl rfl (by rfl) ?_ | refine ldSG H (by rfl) _ _ rfl rfl (by rfl) ?_ | refine ldRG H (by rfl) _ _ rfl rfl (by kernel_rfl) ?_) | ((with_reducible refine here_store ?_); first | (refine stR H rfl _ _ _ rfl rfl rfl (by rfl) (by rfl) (by kernel_rfl) ?_; clear H; intro wx H) | (refine stS H rfl _ _ _ rfl rfl _ rfl (by rfl) (by rfl) (by rfl) ?_; clear H; intro wx H)) | ((with_reducible refine here_alloc ?_); first | (refine wpList_alloc_st H rfl 37 rfl _ q_zero ?_; clear H; intro gq3 wx H) | (refine wpList_alloc_st H rfl 48 rfl _ ans_zero ?_; clear H; intro ga3 wx H) | (refine wpList_alloc_st H rfl 44 rfl _ ev_zero ?_; clear H; intro ge3 wx H) | (refine wpList_alloc_st H rfl 58 rfl _ ber_zero ?_; clear H; intro gr3 wx H)) | ((with_reducible refine here_box ?_); refine wpList_box_st H rfl _ _ rfl _ rfl ?_; clear H; intro gb3 wx H)))
        go_roundw
        case rel => exact ⟨k + 1, Ab, cb, by have := HLT.out; omega, by have := HLT.out; omega, by go_num, by rw [HX.out]; exact hcb, by rw [HX.out]; exact H.subm _⟩
        case measure => have := HLT.out; simp [intOf]; omega
      · have HX := Lib.hid (show servedN (1 + p) rows (k + 1) = (b.serve ev).1 from by rw [HN.out]; unfold BM.take; rw [if_neg hk4])
        have SC := Lib.hid (fun W J H (hI : Has J (evIt Ab b.es)) => serve_st (w0 := w0) (w := W) (I := J) b ev Ab b.es.length cb k rfl hb (by omega) hcb hck hk4 H)
        have hsl := b.serve_len ev
        obtain ⟨r, hr⟩ : ∃ r, b.serve ev = r := ⟨_, rfl⟩
        rw [hr] at SC HX hsl
        obtain ⟨b', ⟨a0, a1, a2, a3⟩, chg⟩ := r
        dsimp only at hsl HX
        obtain ⟨x0, x1, x2, x3, x4, x5⟩ := ev
        have k1 : ((x0 : Int) == 4) = false := by simpa using hk4
        have k2 : decide ((x0 : Int) = 4) = false := by simpa using hk4
        unfold SPost QA.val ansV at SC
        dsimp only at SC
        unfold Ev.val at EC SC
        dsimp only at EC SC
        clear hr hk4 hck hb
        cases chg
        · have hsl2 : b'.es.length = b.es.length := by simpa using hsl
          have hne : ¬ (b.es.length : Int) = (b.es.length : Int) + 1 := by omega
          have hne2 : ((b.es.length : Int) == (b.es.length : Int) + 1) = false := beq_eq_false_iff_ne.2 hne
          have hne3 : decide ((b.es.length : Int) = (b.es.length : Int) + 1) = false := decide_eq_false hne
          have i2 : IntKind.i64.wrap ((b.es.length : Int) + 1) = (b.es.length : Int) + 1 := IntWalk.i64_in _ (by omega)
          rw [hsl2] at SC
          clear hsl
          go_wp2_with (first | (go_at_call 39; refine (EC.out _).mono ?_; rintro ed wy ⟨rfl, hb9⟩; replace H := H.below hb9; clear hb9 q0 q1 q2 q3) | (go_at_call 40; refine (SC.out _ _ H inferInstance).mono ?_; clear H; rintro ed wy ⟨A9, c9, rfl, hc9, H⟩) | (first | ((with_reducible refine here_load ?_); first | refine ldR H rfl _ _ rfl rfl (by kernel_rfl) ?_ | refine ldS H rfl _ _ rfl rfl (by rfl) ?_ | refine ldSG H (by rfl) _ _ rfl rfl (by rfl) ?_ | refine ldRG H (by rfl) _ _ rfl rfl (by kernel_rfl) ?_) | ((with_reducible refine here_store ?_); first | (refine stR H rfl _ _ _ rfl rfl rfl (by rfl) (by rfl) (by kernel_rfl) ?_; clear H; intro wx H) | (refine stS H rfl _ _ _ rfl rfl _ rfl (by rfl) (by rfl) (by rfl) ?_; clear H; intro wx H)) | ((with_reducible refine here_alloc ?_); first | (refine wpList_alloc_st H rfl 37 rfl _ q_zero ?_; clear H; intro gq3 wx H) | (refine wpList_alloc_st H rfl 48 rfl _ ans_zero ?_; clear H; intro ga3 wx H) | (refine wpList_alloc_st H rfl 44 rfl _ ev_zero ?_; clear H; intro ge3 wx H) | (refine wpList_alloc_st H rfl 58 rfl _ ber_zero ?_; clear H; intro gr3 wx H)) | ((with_reducible refine here_box ?_); refine wpList_box_st H rfl _ _ rfl _ rfl ?_; clear H; intro gb3 wx H)))
          go_roundw
          case rel => exact ⟨k + 1, A9, c9, by have := HLT.out; omega, by have := HLT.out; omega, by go_num, by rw [HX.out, hsl2]; exact hc9, by rw [HX.out, hsl2]; exact H.subm _⟩
          case measure => have := HLT.out; simp [intOf]; omega
        · have hsl2 : b'.es.length = b.es.length + 1 := by simpa using hsl
          have i2 : IntKind.i64.wrap ((b.es.length : Int) + 1) = (b.es.length : Int) + 1 := IntWalk.i64_in _ (by omega)
          have i3 : ((b.es.length + 1 : Nat) : Int) = (b.es.length : Int) + 1 := by omega
          rw [hsl2] at SC
          clear hsl
          go_wp2_with (first | (go_at_call 39; refine (EC.out _).mono ?_; rintro ed wy ⟨rfl, hb9⟩; replace H := H.below hb9; clear hb9 q0 q1 q2 q3) | (go_at_call 40; refine (SC.out _ _ H inferInstance).mono ?_; clear H; rintro ed wy ⟨A9, c9, rfl, hc9, H⟩) | (first | ((with_reducible refine here_load ?_); first | refine ldR H rfl _ _ rfl rfl (by kernel_rfl) ?_ | refine ldS H rfl _ _ rfl rfl (by rfl) ?_ | refine ldSG H (by rfl) _ _ rfl rfl (by rfl) ?_ | refine ldRG H (by rfl) _ _ rfl rfl (by kernel_rfl) ?_) | ((with_reducible refine here_store ?_); first | (refine stR H rfl _ _ _ rfl rfl rfl (by rfl) (by rfl) (by kernel_rfl) ?_; clear H; intro wx H) | (refine stS H rfl _ _ _ rfl rfl _ rfl (by rfl) (by rfl) (by rfl) ?_; clear H; intro wx H)) | ((with_reducible refine here_alloc ?_); first | (refine wpList_alloc_st H rfl 37 rfl _ q_zero ?_; clear H; intro gq3 wx H) | (refine wpList_alloc_st H rfl 48 rfl _ ans_zero ?_; clear H; intro ga3 wx H) | (refine wpList_alloc_st H rfl 44 rfl _ ev_zero ?_; clear H; intro ge3 wx H) | (refine wpList_alloc_st H rfl 58 rfl _ ber_zero ?_; clear H; intro gr3 wx H)) | ((with_reducible refine here_box ?_); refine wpList_box_st H rfl _ _ rfl _ rfl ?_; clear H; intro gb3 wx H)))
          go_roundw
          case rel => exact ⟨k + 1, A9, c9, by have := HLT.out; omega, by have := HLT.out; omega, by go_num, by rw [HX.out, hsl2]; exact hc9, by rw [HX.out, hsl2]; exact H.subm _⟩
          case measure => have := HLT.out; simp [intOf]; omega
    · have hkm : k = min n most := by omega
      have hor : ¬ (k : Int) < (n : Int) ∨ ((k : Int) < (n : Int) ∧ ¬ (k : Int) < (most : Int)) := by omega
      have HB := Lib.hid ((OK.out k).1.more (show k ≤ 60 by omega))
      rw [← hkm] at HF
      generalize servedN (1 + p) rows k = b at *
      clear hlt hkm
      rcases hor with hor | ⟨ho1, ho2⟩
      · have ho3 := decide_eq_false hor
        go_upto_region 13 with fail
        (try simp only [Act.put])
        refine startS (H.subm (.bl gr2 58 (bArr b Ab b.es.length cb) :: evIt Ab b.es :: I)) (by kernel_rfl) (fun HS => ?_)
        replace H := H.drew
        refine takeRow_st (i := 0) 58 _ rfl rfl rfl row_Berth (by kernel_rfl) (by kernel_rfl) (by kernel_rfl) (by kernel_rfl) (fun _ _ _ _ h => h) (by rfl) HS ?_
        (try simp only [Act.put, List.setIfInBounds_toArray, List.set_cons_zero, List.set_cons_succ])
        refine takeRow_st (i := 1) 58 _ rfl rfl rfl row_Berth (by kernel_rfl) (by kernel_rfl) (by kernel_rfl) (by kernel_rfl) (fun _ _ _ _ h => h) (by rfl) HS ?_
        (try simp only [Act.put, List.setIfInBounds_toArray, List.set_cons_zero, List.set_cons_succ])
        refine branchH [2] (by kernel_rfl) (by kernel_rfl) (AllStep.cons ?_ AllStep.nil)
        refine stepH_do (i := 2) rfl (by rfl) ?_
        refine wp_call_st rfl Try.func41 (by kernel_rfl) (by kernel_rfl) _ ?_ ((check_st b Ab b.es.length cb 60 rfl HB.out (by omega) hcb H).mono ?_)
        · rfl
        clear H
        rintro ed wy ⟨rfl, H⟩
        replace HS := HS.of H
        refine ⟨_, rfl, HS, ?_⟩
        (try simp only [Act.put, List.setIfInBounds_toArray, List.set_cons_zero, List.set_cons_succ])
        refine takeV (i := 3) (v := ?_) rfl (by kernel_rfl) (by kernel_rfl) (by kernel_rfl) (fun _ _ _ h => h) (by rfl) ?_ HS ?_
        rotate_left
        · (intro W hW; go_simp; try with_reducible rfl)
        (try simp only [Act.put, List.setIfInBounds_toArray, List.set_cons_zero, List.set_cons_succ])
        refine branchH [4] (by kernel_rfl) (by kernel_rfl) (AllStep.cons ?_ AllStep.nil)
        refine stepH_do (i := 4) rfl (by rfl) ?_
        refine wp_store_st H 58 _ _ rfl rfl rfl (by kernel_rfl) (by rfl) (by kernel_rfl) ?_
        clear H
        intro wx H
        replace HS := HS.of H
        refine ⟨HS, ?_⟩
        (try simp only [Act.put])
        refine takeAssign (i := 5) rfl rfl _ (by rfl) (by kernel_rfl) (by kernel_rfl) (by kernel_rfl) (fun _ _ _ _ h => h) (by rfl) HS ?_
        (try simp only [Act.put, List.setIfInBounds_toArray, List.set_cons_zero, List.set_cons_succ])
        refine doneH (by kernel_rfl) ?_
        go_wp2_with fail
        have l4 : (loadVar 58 ⟨gr, 0, none⟩).run Try.prog wx = .ok (.agg (bArr b Ab b.es.length cb)) wx := H.loadRow 58 gr row_Berth (P := Try.prog) (by kernel_rfl)
        exact bodyPost_ret (v := .tuple #[.agg (bArr b Ab b.es.length cb), .bool true]) (by simp [results, Try.results16, asAddr, l4]) rfl (HF.out _ _ _ hcb (H.subm _))
      · have ho3 := decide_eq_true ho1
        have ho4 := decide_eq_false ho2
        go_upto_region 13 with fail
        (try simp only [Act.put])
        refine startS (H.subm (.bl gr2 58 (bArr b Ab b.es.length cb) :: evIt Ab b.es :: I)) (by kernel_rfl) (fun HS => ?_)
        replace H := H.drew
        refine takeRow_st (i := 0) 58 _ rfl rfl rfl row_Berth (by kernel_rfl) (by kernel_rfl) (by kernel_rfl) (by kernel_rfl) (fun _ _ _ _ h => h) (by rfl) HS ?_
        (try simp only [Act.put, List.setIfInBounds_toArray, List.set_cons_zero, List.set_cons_succ])
        refine takeRow_st (i := 1) 58 _ rfl rfl rfl row_Berth (by kernel_rfl) (by kernel_rfl) (by kernel_rfl) (by kernel_rfl) (fun _ _ _ _ h => h) (by rfl) HS ?_
        (try simp only [Act.put, List.setIfInBounds_toArray, List.set_cons_zero, List.set_cons_succ])
        refine branchH [2] (by kernel_rfl) (by kernel_rfl) (AllStep.cons ?_ AllStep.nil)
        refine stepH_do (i := 2) rfl (by rfl) ?_
        refine wp_call_st rfl Try.func41 (by kernel_rfl) (by kernel_rfl) _ ?_ ((check_st b Ab b.es.length cb 60 rfl HB.out (by omega) hcb H).mono ?_)
        · rfl
        clear H
        rintro ed wy ⟨rfl, H⟩
        replace HS := HS.of H
        refine ⟨_, rfl, HS, ?_⟩
        (try simp only [Act.put, List.setIfInBounds_toArray, List.set_cons_zero, List.set_cons_succ])
        refine takeV (i := 3) (v := ?_) rfl (by kernel_rfl) (by kernel_rfl) (by kernel_rfl) (fun _ _ _ h => h) (by rfl) ?_ HS ?_
        rotate_left
        · (intro W hW; go_simp; try with_reducible rfl)
        (try simp only [Act.put, List.setIfInBounds_toArray, List.set_cons_zero, List.set_cons_succ])
        refine branchH [4] (by kernel_rfl) (by kernel_rfl) (AllStep.cons ?_ AllStep.nil)
        refine stepH_do (i := 4) rfl (by rfl) ?_
        refine wp_store_st H 58 _ _ rfl rfl rfl (by kernel_rfl) (by rfl) (by kernel_rfl) ?_
        clear H
        intro wx H
        replace HS := HS.of H
        refine ⟨HS, ?_⟩
        (try simp only [Act.put])
        refine takeAssign (i := 5) rfl rfl _ (by rfl) (by kernel_rfl) (by kernel_rfl) (by kernel_rfl) (fun _ _ _ _ h => h) (by rfl) HS ?_
        (try simp only [Act.put, List.setIfInBounds_toArray, List.set_cons_zero, List.set_cons_succ])
        refine doneH (by kernel_rfl) ?_
        go_wp2_with fail
        have l4 : (loadVar 58 ⟨gr, 0, none⟩).run Try.prog wx = .ok (.agg (bArr b Ab b.es.length cb)) wx := H.loadRow 58 gr row_Berth (P := Try.prog) (by kernel_rfl)
        exact bodyPost_ret (v := .tuple #[.agg (bArr b Ab b.es.length cb), .bool true]) (by simp [results, Try.results16, asAddr, l4]) rfl (HF.out _ _ _ hcb (H.subm _))

end Go.Proofs.Ytjmncbfmjeeneaa

namespace Go.Proofs.Ytjmncbfmjeeneaa
open Go.RowKit

/-- where the part from place l on begins, if m places are left of it and what is ahead -/
def subA (A : Option Addr) (l m s : Nat) : Option Addr := if m = l then A else A.map (·.add (l * s))
/-- a bound: given as a number, or left out (then it is d) -/
def BndIs (o : Option Value) (k d : Nat) : Prop := (∃ x : Int, o = some (.int .i64 x) ∧ x = (k : Int)) ∨ (o = none ∧ k = d)
theorem run_sliceBound {P : Program} (x : Int) (k y : Nat) (code : BoundsCode) (w : World) (hx : x = (k : Int)) (hk : k ≤ y) : (Instr.sliceBound (.int .i64 x) y code).run P w = .ok k w := by
  subst hx
  have h : (0 : Int) ≤ (k : Int) ∧ (k : Int) ≤ (y : Int) := ⟨by omega, by omega⟩
  simp [Instr.sliceBound, go_sem, h]
theorem run_sliceAt_sl {P : Program} (t e : TypeId) (s : Nat) (ht : P.underlying t = some (.slice e)) (hi : (P.info? e).map (·.size) = some s) (A : Option Addr) (n c : Nat) (lo hi_ mx : Option Value) (l h m : Nat)
    (hlo : BndIs lo l 0) (hhi : BndIs hi_ h n) (hmx : BndIs mx m c) (hxx : hi_ = none → mx = none) (h1 : l ≤ h) (h2 : h ≤ m) (h3 : m ≤ c) (w : World) :
    (Instr.sliceAt t (.slice A n c) lo hi_ mx).run P w = .ok (.slice (subA A l m s) (h - l) (m - l)) w := by
  have hs : (sizeOf e).run P w = .ok s w := by
    cases hq : P.info? e with
    | none => simp [hq] at hi
    | some i =>
      have : i.size = s := by simpa [hq] using hi
      simp [sizeOf, typeInfo, hq, this]
  have hb : ∀ (W : World), (Instr.sliceBounds true n c lo hi_ mx).run P W = .ok (l, h, m) W := by
    intro W
    unfold Instr.sliceBounds
    rcases hmx with ⟨z, rfl, hz⟩ | ⟨rfl, rfl⟩
    · rcases hhi with ⟨y, rfl, hy⟩ | ⟨rfl, rfl⟩
      · rcases hlo with ⟨x, rfl, hx⟩ | ⟨rfl, rfl⟩
        · simp [Sem.run_bind, run_sliceBound z m c _ W hz h3, run_sliceBound y h m _ W hy h2, run_sliceBound x l h _ W hx h1]
        · simp [Sem.run_bind, run_sliceBound z m c _ W hz h3, run_sliceBound y h m _ W hy h2]
      · cases hxx rfl
    · rcases hhi with ⟨y, rfl, hy⟩ | ⟨rfl, rfl⟩
      · rcases hlo with ⟨x, rfl, hx⟩ | ⟨rfl, rfl⟩
        · simp [Sem.run_bind, run_sliceBound y h m _ W hy h2, run_sliceBound x l h _ W hx h1]
        · simp [run_sliceBound y h m _ W hy h2]
      · rcases hlo with ⟨x, rfl, hx⟩ | ⟨rfl, rfl⟩
        · simp [run_sliceBound x l h _ W hx h1]
        · simp
  unfold Instr.sliceAt Instr.slice
  rw [Sem.run_bind, run_underlying ht w]
  simp only [Result.andThen_ok]
  rw [Sem.run_bind, run_underlying ht w]
  simp only [Result.andThen_ok]
  rw [Sem.run_bind, hb]
  simp only [Result.andThen_ok]
  rw [Sem.run_bind, hs]
  simp only [Result.andThen_ok, Sem.run_pure]
  rfl

section
variable {P : Program} {ops : Array Oper} {rest : List Oper} {o : Oper} {a : Act} {w0 w : World} {I : List It} {Q : Exit → Act → World → Prop}
theorem run_exec_slice {t e : TypeId} {s : Nat} {x : Operand} {lo hi_ mx : Option Operand} (ho : o.op = .slice t x lo hi_ mx) (ht : P.underlying t = some (.slice e)) (hi : (P.info? e).map (·.size) = some s) {A : Option Addr} {n c : Nat} (hx : a.eval x = .slice A n c) (l h m : Nat)
    (hlo : BndIs (lo.map a.eval) l 0) (hhi : BndIs (hi_.map a.eval) h n) (hmx : BndIs (mx.map a.eval) m c) (hxx : hi_.map a.eval = none → mx.map a.eval = none) (h1 : l ≤ h) (h2 : h ≤ m) (h3 : m ≤ c) (w : World) :
    (execOp a.eval o).run P w = .ok (.value (.slice (subA A l m s) (h - l) (m - l))) w := by
  unfold execOp
  simp only [ho, hx, Sem.run_bind, run_sliceAt_sl t e s ht hi A n c _ _ _ l h m hlo hhi hmx hxx h1 h2 h3 w, Result.andThen_ok, Sem.run_pure]
theorem wpList_slice_st {t e : TypeId} {s : Nat} {x : Operand} {lo hi_ mx : Option Operand} (hgd : o.guard = none) (ho : o.op = .slice t x lo hi_ mx) (ht : P.underlying t = some (.slice e)) (hi : (P.info? e).map (·.size) = some s) {A : Option Addr} {n c : Nat} (hx : a.eval x = .slice A n c) (l h m : Nat)
    (hlo : BndIs (lo.map a.eval) l 0) (hhi : BndIs (hi_.map a.eval) h n) (hmx : BndIs (mx.map a.eval) m c) (hxx : hi_.map a.eval = none → mx.map a.eval = none) (h1 : l ≤ h) (h2 : h ≤ m) (h3 : m ≤ c) (q r : Nat) (hq : h - l = q) (hqr : m - l = r)
    (hk : wpList P ops Q rest (a.put o.dst (.slice (subA A l m s) q r)) w) : wpList P ops Q (o :: rest) a w :=
  wpList_plain hgd fun _ hK => by
    subst hq hqr
    unfold Oper.wp
    simp only [run_exec_slice ho ht hi hx l h m hlo hhi hmx hxx h1 h2 h3 w]
    exact hK _ _ hk
theorem here_slice {t : TypeId} {x : Operand} {lo hi_ mx : Option Operand} {d : Option Tmp} {ty : TypeId} {p : String} {af : Array Edge} {gd : Option (Nat × Bool)} (h : wpList P ops Q (⟨d, .slice t x lo hi_ mx, ty, p, af, gd⟩ :: rest) a w) : wpList P ops Q (⟨d, .slice t x lo hi_ mx, ty, p, af, gd⟩ :: rest) a w := h
end
section
variable {P : Program} {md : Region.Mode} {l : List Oper} {Q : Exit → Act → World → Prop} {S : World → Prop} {fuel : Nat} {listed : Array Bool} {a : Act} {w : World}
theorem takeSlice {i : Nat} {oi : Oper} {rest : List Oper} {t e : TypeId} {s : Nat} {x : Operand} {lo hi_ mx : Option Operand} (hi : l.drop i = oi :: rest) (ho : oi.op = .slice t x lo hi_ mx) (ht : P.underlying t = some (.slice e)) (hsz : (P.info? e).map (·.size) = some s) {A : Option Addr} {n c : Nat} (hx : a.eval x = .slice A n c) (k h m : Nat)
    (hlo : BndIs (lo.map a.eval) k 0) (hhi : BndIs (hi_.map a.eval) h n) (hmx : BndIs (mx.map a.eval) m c) (hxx : hi_.map a.eval = none → mx.map a.eval = none) (h1 : k ≤ h) (h2 : h ≤ m) (h3 : m ≤ c)
    (q r : Nat) (hq : h - k = q) (hqr : m - k = r) (hs : Region.noSelect l.toArray = true) (hf : Region.free md l.toArray listed i = true) (hr : (Region.ready md l.toArray listed).contains i = true)
    (hQ : ∀ c a v w, Q (.panic c) (a.put oi.dst v) w → Q (.panic c) a w) (hw : Region.wanted oi (yielded l.toArray a.tmps) = true) (hS : S w)
    (hk : wpAnyH P md l.toArray Q S fuel (listed.setIfInBounds i true) (a.put oi.dst (.slice (subA A k m s) q r)) w) : wpAnyH P md l.toArray Q S (fuel + 1) listed a w :=
  takeV hi hs hf hr (fun c a w => hQ c a _ w) hw (fun W _ => by rw [← hq, ← hqr]; exact run_exec_slice ho ht hsz hx k h m hlo hhi hmx hxx h1 h2 h3 W) hS hk
theorem takeSkip {i : Nat} {oi : Oper} {rest : List Oper} (hi : l.drop i = oi :: rest)
    (hs : Region.noSelect l.toArray = true) (hf : Region.free md l.toArray listed i = true) (hr : (Region.ready md l.toArray listed).contains i = true)
    (hQ : ∀ c a v w, Q (.panic c) (a.put oi.dst v) w → Q (.panic c) a w) (hw : Region.wanted oi (yielded l.toArray a.tmps) = false) (hS : S w)
    (hk : wpAnyH P md l.toArray Q S fuel (listed.setIfInBounds i true) (a.put oi.dst undef) w) : wpAnyH P md l.toArray Q S (fuel + 1) listed a w :=
  wpAnyH_take (at_of_drop hi) hs hf hr (fun c a w => hQ c a _ w) (.inr ⟨hw, rfl⟩) hS hk
end

theorem qevCells_len (es : List Ev) : (qevCells es).length = es.length * 6 := by
  unfold qevCells
  rw [rowCells_len 6 _ (fun r hr => by obtain ⟨x, _, rfl⟩ := List.mem_map.1 hr; rfl)]
  simp
theorem qevCells_drop (es : List Ev) (k : Nat) (hk : k ≤ es.length) : (qevCells es).drop (k * 6) = qevCells (es.drop k) := by
  have h1 : qevCells es = qevCells (es.take k) ++ qevCells (es.drop k) := by
    rw [← qevCells_app, List.take_append_drop]
  have h2 : (qevCells (es.take k)).length = k * 6 := by
    rw [qevCells_len]
    simp [Nat.min_eq_left hk]
  rw [h1, ← h2, List.drop_left]
/-- some events of a slice -/
theorem St.subEv {w0 w : World} {I : List It} {A : Option Addr} {es : List Ev} (H : St w0 w I) [hI : Has I (evIt A es)] (k p m : Nat) (hk : k + p ≤ es.length) (hm : k + p ≤ m) : St w0 w (evIt (subA A k m 6) ((es.drop k).take p) :: I) := by
  have hr : Reads w w.heap.size 6 A es.length (qevCells es) := H.get (evIt A es)
  have hl : ((es.drop k).take p).length = p := by simp; omega
  by_cases hp : p = 0
  · subst hp
    have := H.old (s := 6) (n := 0) (A := subA A k m 6) (xs := []) ⟨by simp, fun h => absurd h (by omega)⟩
    simpa [evIt, qevCells, rowCells] using this
  · obtain ⟨ad, rfl, hb, hc⟩ := hr.2 (by omega)
    have hA : subA (some ad) k m 6 = some (ad.add (k * 6)) := by
      unfold subA
      rw [if_neg (by omega)]
      rfl
    refine St.again (h := hI) H (A' := subA (some ad) k m 6) ⟨by rw [qevCells_len], fun _ => ⟨_, hA, by rw [block_of_add]; exact hb, fun j u hu => ?_⟩⟩ (fun g hg => ?_)
    · have h2 : (qevCells es)[k * 6 + j]? = some u := by
        rw [← qevCells_take _ p (by simp; omega), ← qevCells_drop es k (by omega), List.getElem?_take] at hu
        split at hu
        · rwa [List.getElem?_drop] at hu
        · cases hu
      rw [Addr.add_add]
      exact hc _ _ h2
    · simp only [It.area] at hg ⊢
      rw [if_neg (by omega), hA] at hg
      rw [if_neg (by omega)]
      simpa [block_of_add] using hg

end Go.Proofs.Ytjmncbfmjeeneaa

namespace Go.Proofs.Ytjmncbfmjeeneaa
open Go.RowKit

/-- what Part answers, where there is a part -/
def PPost (w0 : World) (I : List It) (es : List Ev) (last : Bool) (ed : Ending) (w' : World) : Prop :=
  ∃ A c, ed = .returned (.tuple #[.slice A es.length c, .bool last, .int .i64 0]) ∧ es.length ≤ c ∧ St w0 w' (evIt A es :: I)
theorem PPost.mk {w0 w : World} {I : List It} {es : List Ev} {last : Bool} {A : Option Addr} {n c : Nat} (hn : es.length = n) (hc : n ≤ c) (H : St w0 w (evIt A es :: I)) : PPost w0 I es last (.returned (.tuple #[.slice A n c, .bool last, .int .i64 0])) w := by
  subst hn
  exact ⟨A, c, rfl, hc, H⟩
set_option maxRecDepth 100000 in
set_option maxHeartbeats 8000000 in
theorem part_2 {w0 w : World} {I : List It} (be bf bd br : Int) (es : List Ev) (A : Option Addr) (n c m k N : Nat) (hl : es.length = n) (hb : (⟨2, be, bf, bd, br, es⟩ : BM).Ok m) (hm : m ≤ 150) (hc : n ≤ c) (hk : k ≤ n) (hN : min (k + 3) n = N) (H : St w0 w I) [h : Has I (evIt A es)] :
    Calls Try.prog 47 #[.agg (bArr ⟨2, be, bf, bd, br, es⟩ A n c), .int .i64 k] w (PPost w0 I ((es.drop k).take (N - k)) false) := by
  have hn : n ≤ 150 := by have := hb.len; have : n ≤ m := hl ▸ this; omega
  have HI := Lib.hid h
  have HB := Lib.hid hb
  have HL := Lib.hid hl
  have hlp : ((es.drop k).take (N - k)).length = N - k := by simp; omega
  have HLP := Lib.hid hlp
  have HF := Lib.hid (fun W A' c' (h1 : N - k ≤ c') (h2 : St w0 W (evIt A' ((es.drop k).take (N - k)) :: I)) => (PPost.mk hlp h1 h2 : PPost w0 I ((es.drop k).take (N - k)) false (.returned (.tuple #[.slice A' (N - k) c', .bool (false), .int .i64 0])) W))
  generalize PPost w0 I ((es.drop k).take (N - k)) false = POST at *
  unfold bArr
  dsimp only
  have d1 : ¬ (k : Int) < 0 := by omega
  have d2 := decide_eq_false d1
  have d3 : ¬ (n : Int) < (k : Int) := by omega
  have d4 := decide_eq_false d3
  have w1 : IntKind.i64.wrap ((k : Int) + 3) = (k : Int) + 3 := IntWalk.i64_in _ (by omega)
  have hmin : min ((k : Int) + 3) (n : Int) = (N : Int) := by omega
  have n1 : k ≤ N := by omega
  have n2 : N ≤ n := by omega
  skip
  clear h hb hl hlp
  go_enter Try.func47, Try.ntmps47
  go_upto_region 9 with (first | (go_at_call 41; have h := HI.out; refine (check_st ⟨2, be, bf, bd, br, es⟩ A n c m HL.out HB.out hm hc H).mono ?_; clear H h; rintro ed wy ⟨rfl, H⟩) | (first | ((with_reducible refine here_load ?_); first | refine ldR H rfl _ _ rfl rfl (by kernel_rfl) ?_ | refine ldS H rfl _ _ rfl rfl (by rfl) ?_ | refine ldSG H (by rfl) _ _ rfl rfl (by rfl) ?_ | refine ldRG H (by rfl) _ _ rfl rfl (by kernel_rfl) ?_) | ((with_reducible refine here_store ?_); first | (refine stR H rfl _ _ _ rfl rfl rfl (by rfl) (by rfl) (by kernel_rfl) ?_; clear H; intro wx H) | (refine stS H rfl _ _ _ rfl rfl _ rfl (by rfl) (by rfl) (by rfl) ?_; clear H; intro wx H)) | ((with_reducible refine here_alloc ?_); first | (refine wpList_alloc_st H rfl 37 rfl _ q_zero ?_; clear H; intro gq wx H) | (refine wpList_alloc_st H rfl 48 rfl _ ans_zero ?_; clear H; intro ga wx H) | (refine wpList_alloc_st H rfl 44 rfl _ ev_zero ?_; clear H; intro ge wx H) | (refine wpList_alloc_st H rfl 58 rfl _ ber_zero ?_; clear H; intro gr wx H)) | ((with_reducible refine here_box ?_); refine wpList_box_st H rfl _ _ rfl _ rfl ?_; clear H; intro gb wx H)))
  (try simp only [Act.put])
  refine startS (H.subm (.bl gb 58 #[.int .i64 2, .int .i64 be, .int .i64 bf, .int .i64 bd, .int .i64 br, .slice A n c] :: I)) (by kernel_rfl) (fun HS => ?_)
  replace H := H.drew
  refine takeV (i := 0) (v := ?_) rfl (by kernel_rfl) (by kernel_rfl) (by kernel_rfl) (fun _ _ _ h => h) (by rfl) ?_ HS ?_
  rotate_left
  · (intro W hW; go_simp; try with_reducible rfl)
  (try simp only [Act.put, List.setIfInBounds_toArray, List.set_cons_zero, List.set_cons_succ])
  refine take1_st (i := 1) 23 _ rfl rfl rfl sc_Evs _ (by rfl) (by kernel_rfl) (by kernel_rfl) (by kernel_rfl) (fun _ _ _ _ h => h) (by rfl) HS ?_
  (try simp only [Act.put, List.setIfInBounds_toArray, List.set_cons_zero, List.set_cons_succ])
  refine takeMove (i := 2) rfl rfl _ (by rfl) (by kernel_rfl) (by kernel_rfl) (by kernel_rfl) (fun _ _ _ _ h => h) (by rfl) HS ?_
  (try simp only [Act.put, List.setIfInBounds_toArray, List.set_cons_zero, List.set_cons_succ])
  refine takeMove (i := 3) rfl rfl _ (by rfl) (by kernel_rfl) (by kernel_rfl) (by kernel_rfl) (fun _ _ _ _ h => h) (by rfl) HS ?_
  (try simp only [Act.put, List.setIfInBounds_toArray, List.set_cons_zero, List.set_cons_succ])
  refine takeSlice (i := 4) rfl rfl Try.underlying23 (s := 6) (by kernel_rfl) rfl (k) (N) (c) (.inl ⟨_, rfl, by omega⟩) (.inl ⟨_, rfl, by omega⟩) (.inr ⟨rfl, rfl⟩) (fun _ => rfl) (by omega) (by omega) (by omega) (N - (k)) (c - (k)) (by omega) (by omega) (by kernel_rfl) (by kernel_rfl) (by kernel_rfl) (fun _ _ _ _ h => h) (by rfl) HS ?_
  (try simp only [Act.put, List.setIfInBounds_toArray, List.set_cons_zero, List.set_cons_succ])
  refine takeV (i := 6) (v := ?_) rfl (by kernel_rfl) (by kernel_rfl) (by kernel_rfl) (fun _ _ _ h => h) (by rfl) ?_ HS ?_
  rotate_left
  · (intro W hW; go_simp; try with_reducible rfl)
  (try simp only [Act.put, List.setIfInBounds_toArray, List.set_cons_zero, List.set_cons_succ])
  refine take1_st (i := 7) 3 _ rfl rfl rfl sc_int _ (by rfl) (by kernel_rfl) (by kernel_rfl) (by kernel_rfl) (fun _ _ _ _ h => h) (by rfl) HS ?_
  (try simp only [Act.put, List.setIfInBounds_toArray, List.set_cons_zero, List.set_cons_succ])
  refine takeV (i := 8) (v := ?_) rfl (by kernel_rfl) (by kernel_rfl) (by kernel_rfl) (fun _ _ _ h => h) (by rfl) ?_ HS ?_
  rotate_left
  · (intro W hW; go_simp; try with_reducible rfl)
  (try simp only [Act.put, List.setIfInBounds_toArray, List.set_cons_zero, List.set_cons_succ])
  refine branchH [5] (by kernel_rfl) (by kernel_rfl) (AllStep.cons ?_ AllStep.nil)
  refine stepH_do (i := 5) rfl (by rfl) ?_
  have h := HI.out
  replace H := H.subEv (A := A) (es := es) k (N - k) c (by rw [HL.out]; omega) (by omega)
  refine wp_call_st rfl Try.func49 (by kernel_rfl) (by kernel_rfl) _ ?_ ((clone_ev_st ((es.drop k).take (N - k)) (subA A k c 6) (N - k) (c - k) HLP.out H (by omega) (by omega)).mono ?_)
  · rfl
  clear H h
  rintro ed wy ⟨v, rfl, H⟩
  obtain ⟨A7, c7, rfl, hc7, _⟩ := own_shape (H.own 44 v)
  replace HS := HS.of H
  refine ⟨_, rfl, HS, ?_⟩
  (try simp only [Act.put, List.setIfInBounds_toArray, List.set_cons_zero, List.set_cons_succ])
  refine takeMove (i := 9) rfl rfl _ (by rfl) (by kernel_rfl) (by kernel_rfl) (by kernel_rfl) (fun _ _ _ _ h => h) (by rfl) HS ?_
  (try simp only [Act.put, List.setIfInBounds_toArray, List.set_cons_zero, List.set_cons_succ])
  refine takeSkip (i := 10) rfl (by kernel_rfl) (by kernel_rfl) (by kernel_rfl) (fun _ _ _ _ h => h) (by rfl) HS ?_
  (try simp only [Act.put, List.setIfInBounds_toArray, List.set_cons_zero, List.set_cons_succ])
  refine takeSkip (i := 11) rfl (by kernel_rfl) (by kernel_rfl) (by kernel_rfl) (fun _ _ _ _ h => h) (by rfl) HS ?_
  (try simp only [Act.put, List.setIfInBounds_toArray, List.set_cons_zero, List.set_cons_succ])
  refine takeSkip (i := 12) rfl (by kernel_rfl) (by kernel_rfl) (by kernel_rfl) (fun _ _ _ _ h => h) (by rfl) HS ?_
  (try simp only [Act.put, List.setIfInBounds_toArray, List.set_cons_zero, List.set_cons_succ])
  refine takeSkip (i := 13) rfl (by kernel_rfl) (by kernel_rfl) (by kernel_rfl) (fun _ _ _ _ h => h) (by rfl) HS ?_
  (try simp only [Act.put, List.setIfInBounds_toArray, List.set_cons_zero, List.set_cons_succ])
  refine takeSkip (i := 14) rfl (by kernel_rfl) (by kernel_rfl) (by kernel_rfl) (fun _ _ _ _ h => h) (by rfl) HS ?_
  (try simp only [Act.put, List.setIfInBounds_toArray, List.set_cons_zero, List.set_cons_succ])
  refine takeV (i := 15) (v := ?_) rfl (by kernel_rfl) (by kernel_rfl) (by kernel_rfl) (fun _ _ _ h => h) (by rfl) ?_ HS ?_
  rotate_left
  · (intro W hW; go_simp; try with_reducible rfl)
  (try simp only [Act.put, List.setIfInBounds_toArray, List.set_cons_zero, List.set_cons_succ])
  refine takeAssign (i := 16) rfl rfl _ (by rfl) (by kernel_rfl) (by kernel_rfl) (by kernel_rfl) (fun _ _ _ _ h => h) (by rfl) HS ?_
  (try simp only [Act.put, List.setIfInBounds_toArray, List.set_cons_zero, List.set_cons_succ])
  refine takeAssign (i := 17) rfl rfl _ (by rfl) (by kernel_rfl) (by kernel_rfl) (by kernel_rfl) (fun _ _ _ _ h => h) (by rfl) HS ?_
  (try simp only [Act.put, List.setIfInBounds_toArray, List.set_cons_zero, List.set_cons_succ])
  refine takeV (i := 18) (v := ?_) rfl (by kernel_rfl) (by kernel_rfl) (by kernel_rfl) (fun _ _ _ h => h) (by rfl) ?_ HS ?_
  rotate_left
  · (intro W hW; go_simp; try with_reducible rfl)
  (try simp only [Act.put, List.setIfInBounds_toArray, List.set_cons_zero, List.set_cons_succ])
  refine doneH (by kernel_rfl) ?_
  replace H := H.freezeEvAt (A := A7) (c := c7) (n := N - k) (es := (es.drop k).take (N - k)) HLP.out
  go_wp2_with fail
  exact bodyPost_ret (v := .tuple #[.slice A7 (N - k) c7, .bool false, .int .i64 0]) (by simp [results, Try.results47]) rfl (HF.out _ A7 c7 hc7 (H.subm _))
set_option maxRecDepth 100000 in
set_option maxHeartbeats 8000000 in
theorem part_3 {w0 w : World} {I : List It} (be bf bd br : Int) (es : List Ev) (A : Option Addr) (n c m k N : Nat) (hl : es.length = n) (hb : (⟨3, be, bf, bd, br, es⟩ : BM).Ok m) (hm : m ≤ 150) (hc : n ≤ c) (hk : k ≤ n) (hN : min (k + 3) n = N) (H : St w0 w I) [h : Has I (evIt A es)] :
    Calls Try.prog 47 #[.agg (bArr ⟨3, be, bf, bd, br, es⟩ A n c), .int .i64 k] w (PPost w0 I ((es.drop k).take (N - k)) ((N : Int) == (n : Int))) := by
  have hn : n ≤ 150 := by have := hb.len; have : n ≤ m := hl ▸ this; omega
  have HI := Lib.hid h
  have HB := Lib.hid hb
  have HL := Lib.hid hl
  have hlp : ((es.drop k).take (N - k)).length = N - k := by simp; omega
  have HLP := Lib.hid hlp
  have HF := Lib.hid (fun W A' c' (h1 : N - k ≤ c') (h2 : St w0 W (evIt A' ((es.drop k).take (N - k)) :: I)) => (PPost.mk hlp h1 h2 : PPost w0 I ((es.drop k).take (N - k)) ((N : Int) == (n : Int)) (.returned (.tuple #[.slice A' (N - k) c', .bool (((N : Int) == (n : Int))), .int .i64 0])) W))
  generalize PPost w0 I ((es.drop k).take (N - k)) ((N : Int) == (n : Int)) = POST at *
  unfold bArr
  dsimp only
  have d1 : ¬ (k : Int) < 0 := by omega
  have d2 := decide_eq_false d1
  have d3 : ¬ (n : Int) < (k : Int) := by omega
  have d4 := decide_eq_false d3
  have w1 : IntKind.i64.wrap ((k : Int) + 3) = (k : Int) + 3 := IntWalk.i64_in _ (by omega)
  have hmin : min ((k : Int) + 3) (n : Int) = (N : Int) := by omega
  have n1 : k ≤ N := by omega
  have n2 : N ≤ n := by omega
  skip
  clear h hb hl hlp
  go_enter Try.func47, Try.ntmps47
  go_upto_region 9 with (first | (go_at_call 41; have h := HI.out; refine (check_st ⟨3, be, bf, bd, br, es⟩ A n c m HL.out HB.out hm hc H).mono ?_; clear H h; rintro ed wy ⟨rfl, H⟩) | (first | ((with_reducible refine here_load ?_); first | refine ldR H rfl _ _ rfl rfl (by kernel_rfl) ?_ | refine ldS H rfl _ _ rfl rfl (by rfl) ?_ | refine ldSG H (by rfl) _ _ rfl rfl (by rfl) ?_ | refine ldRG H (by rfl) _ _ rfl rfl (by kernel_rfl) ?_) | ((with_reducible refine here_store ?_); first | (refine stR H rfl _ _ _ rfl rfl rfl (by rfl) (by rfl) (by kernel_rfl) ?_; clear H; intro wx H) | (refine stS H rfl _ _ _ rfl rfl _ rfl (by rfl) (by rfl) (by rfl) ?_; clear H; intro wx H)) | ((with_reducible refine here_alloc ?_); first | (refine wpList_alloc_st H rfl 37 rfl _ q_zero ?_; clear H; intro gq wx H) | (refine wpList_alloc_st H rfl 48 rfl _ ans_zero ?_; clear H; intro ga wx H) | (refine wpList_alloc_st H rfl 44 rfl _ ev_zero ?_; clear H; intro ge wx H) | (refine wpList_alloc_st H rfl 58 rfl _ ber_zero ?_; clear H; intro gr wx H)) | ((with_reducible refine here_box ?_); refine wpList_box_st H rfl _ _ rfl _ rfl ?_; clear H; intro gb wx H)))
  (try simp only [Act.put])
  refine startS (H.subm (.bl gb 58 #[.int .i64 3, .int .i64 be, .int .i64 bf, .int .i64 bd, .int .i64 br, .slice A n c] :: I)) (by kernel_rfl) (fun HS => ?_)
  replace H := H.drew
  refine takeV (i := 0) (v := ?_) rfl (by kernel_rfl) (by kernel_rfl) (by kernel_rfl) (fun _ _ _ h => h) (by rfl) ?_ HS ?_
  rotate_left
  · (intro W hW; go_simp; try with_reducible rfl)
  (try simp only [Act.put, List.setIfInBounds_toArray, List.set_cons_zero, List.set_cons_succ])
  refine take1_st (i := 1) 23 _ rfl rfl rfl sc_Evs _ (by rfl) (by kernel_rfl) (by kernel_rfl) (by kernel_rfl) (fun _ _ _ _ h => h) (by rfl) HS ?_
  (try simp only [Act.put, List.setIfInBounds_toArray, List.set_cons_zero, List.set_cons_succ])
  refine takeMove (i := 2) rfl rfl _ (by rfl) (by kernel_rfl) (by kernel_rfl) (by kernel_rfl) (fun _ _ _ _ h => h) (by rfl) HS ?_
  (try simp only [Act.put, List.setIfInBounds_toArray, List.set_cons_zero, List.set_cons_succ])
  refine takeMove (i := 3) rfl rfl _ (by rfl) (by kernel_rfl) (by kernel_rfl) (by kernel_rfl) (fun _ _ _ _ h => h) (by rfl) HS ?_
  (try simp only [Act.put, List.setIfInBounds_toArray, List.set_cons_zero, List.set_cons_succ])
  refine takeSlice (i := 4) rfl rfl Try.underlying23 (s := 6) (by kernel_rfl) rfl (k) (N) (c) (.inl ⟨_, rfl, by omega⟩) (.inl ⟨_, rfl, by omega⟩) (.inr ⟨rfl, rfl⟩) (fun _ => rfl) (by omega) (by omega) (by omega) (N - (k)) (c - (k)) (by omega) (by omega) (by kernel_rfl) (by kernel_rfl) (by kernel_rfl) (fun _ _ _ _ h => h) (by rfl) HS ?_
  (try simp only [Act.put, List.setIfInBounds_toArray, List.set_cons_zero, List.set_cons_succ])
  refine takeV (i := 6) (v := ?_) rfl (by kernel_rfl) (by kernel_rfl) (by kernel_rfl) (fun _ _ _ h => h) (by rfl) ?_ HS ?_
  rotate_left
  · (intro W hW; go_simp; try with_reducible rfl)
  (try simp only [Act.put, List.setIfInBounds_toArray, List.set_cons_zero, List.set_cons_succ])
  refine take1_st (i := 7) 3 _ rfl rfl rfl sc_int _ (by rfl) (by kernel_rfl) (by kernel_rfl) (by kernel_rfl) (fun _ _ _ _ h => h) (by rfl) HS ?_
  (try simp only [Act.put, List.setIfInBounds_toArray, List.set_cons_zero, List.set_cons_succ])
  refine takeV (i := 8) (v := ?_) rfl (by kernel_rfl) (by kernel_rfl) (by kernel_rfl) (fun _ _ _ h => h) (by rfl) ?_ HS ?_
  rotate_left
  · (intro W hW; go_simp; try with_reducible rfl)
  (try simp only [Act.put, List.setIfInBounds_toArray, List.set_cons_zero, List.set_cons_succ])
  refine branchH [5] (by kernel_rfl) (by kernel_rfl) (AllStep.cons ?_ AllStep.nil)
  refine stepH_do (i := 5) rfl (by rfl) ?_
  have h := HI.out
  replace H := H.subEv (A := A) (es := es) k (N - k) c (by rw [HL.out]; omega) (by omega)
  refine wp_call_st rfl Try.func49 (by kernel_rfl) (by kernel_rfl) _ ?_ ((clone_ev_st ((es.drop k).take (N - k)) (subA A k c 6) (N - k) (c - k) HLP.out H (by omega) (by omega)).mono ?_)
  · rfl
  clear H h
  rintro ed wy ⟨v, rfl, H⟩
  obtain ⟨A7, c7, rfl, hc7, _⟩ := own_shape (H.own 44 v)
  replace HS := HS.of H
  refine ⟨_, rfl, HS, ?_⟩
  (try simp only [Act.put, List.setIfInBounds_toArray, List.set_cons_zero, List.set_cons_succ])
  refine takeMove (i := 9) rfl rfl _ (by rfl) (by kernel_rfl) (by kernel_rfl) (by kernel_rfl) (fun _ _ _ _ h => h) (by rfl) HS ?_
  (try simp only [Act.put, List.setIfInBounds_toArray, List.set_cons_zero, List.set_cons_succ])
  refine takeMove (i := 10) rfl rfl _ (by rfl) (by kernel_rfl) (by kernel_rfl) (by kernel_rfl) (fun _ _ _ _ h => h) (by rfl) HS ?_
  (try simp only [Act.put, List.setIfInBounds_toArray, List.set_cons_zero, List.set_cons_succ])
  refine takeV (i := 11) (v := ?_) rfl (by kernel_rfl) (by kernel_rfl) (by kernel_rfl) (fun _ _ _ h => h) (by rfl) ?_ HS ?_
  rotate_left
  · (intro W hW; go_simp; try with_reducible rfl)
  (try simp only [Act.put, List.setIfInBounds_toArray, List.set_cons_zero, List.set_cons_succ])
  refine take1_st (i := 12) 23 _ rfl rfl rfl sc_Evs _ (by rfl) (by kernel_rfl) (by kernel_rfl) (by kernel_rfl) (fun _ _ _ _ h => h) (by rfl) HS ?_
  (try simp only [Act.put, List.setIfInBounds_toArray, List.set_cons_zero, List.set_cons_succ])
  refine takeV (i := 13) (v := ?_) rfl (by kernel_rfl) (by kernel_rfl) (by kernel_rfl) (fun _ _ _ h => h) (by rfl) ?_ HS ?_
  rotate_left
  · (intro W hW; go_simp; try with_reducible rfl)
  (try simp only [Act.put, List.setIfInBounds_toArray, List.set_cons_zero, List.set_cons_succ])
  refine takeV (i := 14) (v := ?_) rfl (by kernel_rfl) (by kernel_rfl) (by kernel_rfl) (fun _ _ _ h => h) (by rfl) ?_ HS ?_
  rotate_left
  · (intro W hW; go_simp; try with_reducible rfl)
  (try simp only [Act.put, List.setIfInBounds_toArray, List.set_cons_zero, List.set_cons_succ])
  refine takeV (i := 15) (v := ?_) rfl (by kernel_rfl) (by kernel_rfl) (by kernel_rfl) (fun _ _ _ h => h) (by rfl) ?_ HS ?_
  rotate_left
  · (intro W hW; go_simp; try with_reducible rfl)
  (try simp only [Act.put, List.setIfInBounds_toArray, List.set_cons_zero, List.set_cons_succ])
  refine takeAssign (i := 16) rfl rfl _ (by rfl) (by kernel_rfl) (by kernel_rfl) (by kernel_rfl) (fun _ _ _ _ h => h) (by rfl) HS ?_
  (try simp only [Act.put, List.setIfInBounds_toArray, List.set_cons_zero, List.set_cons_succ])
  refine takeAssign (i := 17) rfl rfl _ (by rfl) (by kernel_rfl) (by kernel_rfl) (by kernel_rfl) (fun _ _ _ _ h => h) (by rfl) HS ?_
  (try simp only [Act.put, List.setIfInBounds_toArray, List.set_cons_zero, List.set_cons_succ])
  refine takeV (i := 18) (v := ?_) rfl (by kernel_rfl) (by kernel_rfl) (by kernel_rfl) (fun _ _ _ h => h) (by rfl) ?_ HS ?_
  rotate_left
  · (intro W hW; go_simp; try with_reducible rfl)
  (try simp only [Act.put, List.setIfInBounds_toArray, List.set_cons_zero, List.set_cons_succ])
  refine doneH (by kernel_rfl) ?_
  replace H := H.freezeEvAt (A := A7) (c := c7) (n := N - k) (es := (es.drop k).take (N - k)) HLP.out
  go_wp2_with fail
  exact bodyPost_ret (v := .tuple #[.slice A7 (N - k) c7, .bool ((N : Int) == (n : Int)), .int .i64 0]) (by simp [results, Try.results47]) rfl (HF.out _ A7 c7 hc7 (H.subm _))
theorem part_take {es : List Ev} {k N n : Nat} (hl : es.length = n) (hN : min (k + 3) n = N) : (es.drop k).take (N - k) = (es.drop k).take 3 := by
  rw [List.take_eq_take_iff, List.length_drop]
  omega
/-- Part, where there is a part -/
theorem part_st {w0 w : World} {I : List It} (b : BM) (A : Option Addr) (n c m k : Nat) (hl : b.es.length = n) (hb : b.Ok m) (hm : m ≤ 150) (hc : n ≤ c) (hr : b.role = 2 ∨ b.role = 3) (hk : k ≤ n) (H : St w0 w I) [h : Has I (evIt A b.es)] :
    Calls Try.prog 47 #[.agg (bArr b A n c), .int .i64 k] w (PPost w0 I (b.part k) (b.partEnd k)) := by
  obtain ⟨r, be, bf, bd, br, es⟩ := b
  dsimp only at hr hl
  obtain ⟨N, hN⟩ : ∃ N, min (k + 3) n = N := ⟨_, rfl⟩
  unfold BM.part BM.partEnd
  dsimp only
  rw [← part_take hl hN, hl, hN]
  rcases hr with rfl | rfl
  · exact part_2 be bf bd br es A n c m k N hl hb hm hc hk hN H
  · have e : ((3 : Int) == 3 && N == n) = ((N : Int) == (n : Int)) := by
      rw [Bool.eq_iff_iff]
      simp
      omega
    rw [e]
    exact part_3 be bf bd br es A n c m k N hl hb hm hc hk hN H
end Go.Proofs.Ytjmncbfmjeeneaa

namespace Go.Proofs.Ytjmncbfmjeeneaa
open Go.RowKit

/-- with how many events two histories begin alike -/
def IsCommon (es fs : List Ev) (i : Nat) : Prop := i ≤ es.length ∧ i ≤ fs.length ∧ (∀ j, j < i → es.getD j .zero0 = fs.getD j .zero0) ∧ (i = es.length ∨ i = fs.length ∨ es.getD i .zero0 ≠ fs.getD i .zero0)
theorem IsCommon.same {es fs : List Ev} {i j : Nat} (h : IsCommon es fs i) (k : IsCommon fs es j) : i = j := by
  obtain ⟨h1, h2, h3, h4⟩ := h
  obtain ⟨k1, k2, k3, k4⟩ := k
  rcases Nat.lt_trichotomy i j with hlt | he | hlt
  · rcases h4 with h4 | h4 | h4
    · omega
    · omega
    · exact absurd (k3 i hlt).symm h4
  · exact he
  · rcases k4 with k4 | k4 | k4
    · omega
    · omega
    · exact absurd (h3 j hlt).symm k4
theorem IsCommon.self {es : List Ev} {i : Nat} (h : IsCommon es es i) : i = es.length := by
  obtain ⟨h1, h2, h3, h4⟩ := h
  rcases h4 with h4 | h4 | h4
  · exact h4
  · exact h4
  · exact absurd rfl h4
theorem IsCommon.least {es xs : List Ev} {i k : Nat} (h : IsCommon es (es.take k ++ xs) i) (hk : k ≤ es.length) : k ≤ i := by
  obtain ⟨h1, h2, h3, h4⟩ := h
  by_cases hlt : i < k
  · have hl : (es.take k).length = k := by simp; omega
    rcases h4 with h4 | h4 | h4
    · omega
    · rw [List.length_append, hl] at h4
      omega
    · refine absurd ?_ h4
      simp only [List.getD]
      rw [List.getElem?_append_left (by omega), List.getElem?_take]
      simp [hlt]
  · omega
theorem evNe_self (e : Ev) : evNe e.kind e.prod e.id e.body e.hep e.hno e.kind e.prod e.id e.body e.hep e.hno = false := by simp [evNe]
theorem evNe_of {e f : Ev} (h : e ≠ f) : evNe e.kind e.prod e.id e.body e.hep e.hno f.kind f.prod f.id f.body f.hep f.hno = true := by
  cases hb : evNe e.kind e.prod e.id e.body e.hep e.hno f.kind f.prod f.id f.body f.hep f.hno with
  | true => rfl
  | false =>
    refine absurd ?_ h
    obtain ⟨a0, a1, a2, a3, a4, a5⟩ := e
    obtain ⟨b0, b1, b2, b3, b4, b5⟩ := f
    simp only [evNe, Bool.not_eq_false', Bool.and_eq_true, beq_iff_eq] at hb
    obtain ⟨⟨⟨⟨⟨rfl, rfl⟩, rfl⟩, rfl⟩, rfl⟩, rfl⟩ := hb
    rfl

end Go.Proofs.Ytjmncbfmjeeneaa

namespace Go.Proofs.Ytjmncbfmjeeneaa
open Go.RowKit

theorem ev_ne_val (e f : Ev) (hef : e ≠ f) (w : World) : (binOp .neq 44 e.val f.val).run Try.prog w = .ok (.bool true) w := by
  have hq := ev_neq e.kind e.prod e.id e.body e.hep e.hno f.kind f.prod f.id f.body f.hep f.hno w
  rw [evNe_of hef] at hq
  exact hq
theorem same_of_getD {es fs : List Ev} (hl : es.length = fs.length) (h : ∀ j, j < es.length → es.getD j .zero0 = fs.getD j .zero0) : es = fs := by
  apply List.ext_getElem hl
  intro i h1 h2
  have := h i h1
  simpa [List.getD, h1, h2] using this
def EqOk (v : Bool) (es fs : List Ev) : Prop := v = true ↔ es = fs
def EqPost (w0 : World) (I : List It) (es fs : List Ev) (ed : Ending) (w' : World) : Prop :=
  ∃ v, ed = .returned (.bool v) ∧ EqOk v es fs ∧ St w0 w' I
set_option maxRecDepth 100000 in
set_option maxHeartbeats 8000000 in
theorem eqEv_st {w0 w : World} {I : List It} (es fs : List Ev) (A B : Option Addr) (n c d : Nat) (hn : es.length = n) (hm : fs.length = n) (H : St w0 w I) [h1 : Has I (evIt A es)] [h2 : Has I (evIt B fs)]
    (hn1 : n ≤ 1000) (hc : n ≤ c) (hd : n ≤ d) :
    Calls Try.prog 64 #[.slice A n c, .slice B n d] w (EqPost w0 I es fs) := by
  have HF := Lib.hid (show ∀ v W, EqOk v es fs → St w0 W I → EqPost w0 I es fs (Ending.returned (.bool v)) W from fun v W h1 h2 => ⟨v, rfl, h1, h2⟩)
  generalize EqPost w0 I es fs = POST at *
  have HI := Lib.hid (show Has I (evIt A es) ∧ Has I (evIt B fs) from ⟨h1, h2⟩)
  have HN := Lib.hid hn
  have HM := Lib.hid hm
  clear h1 h2 hn hm
  go_enter Try.func64, Try.ntmps64
  go_upto_region 4 with fail
  go_loopw [13] (fun s13 wr => ∃ (i : Nat), i ≤ n ∧ s13 = .int .i64 i ∧ (∀ j, j < i → es.getD j .zero0 = fs.getD j .zero0) ∧ St w0 wr I) (fun s13 _ => n - (intOf s13).toNat)
  case atStart => exact ⟨0, by omega, rfl, fun j hj => absurd hj (by omega), H⟩
  case round =>
    clear H
    obtain ⟨i, hi, rfl, hall, H⟩ := hrel
    have HALL := Lib.hid hall
    clear hall
    by_cases hlt : i < n
    · obtain ⟨h1, h2⟩ := HI.out
      obtain ⟨b, off, hA, hb, q0, q1, q2, q3, q4, q5⟩ := qevAt (H.get (evIt A es)) rfl (show i < es.length by rw [HN.out]; exact hlt)
      obtain ⟨b', off', hB, hb', r0, r1, r2, r3, r4, r5⟩ := qevAt (H.get (evIt B fs)) rfl (show i < fs.length by rw [HM.out]; exact hlt)
      clear h1 h2
      subst hA
      have HB := Lib.hid hB
      clear hB
      obtain rfl := HB.out
      obtain ⟨e, he⟩ : ∃ e, es.getD i .zero0 = e := ⟨_, rfl⟩
      obtain ⟨f, hf⟩ : ∃ f, fs.getD i .zero0 = f := ⟨_, rfl⟩
      have HE := Lib.hid he
      have HG := Lib.hid hf
      rw [he] at q0 q1 q2 q3 q4 q5
      rw [hf] at r0 r1 r2 r3 r4 r5
      have k6 : (0 : Int) ≤ (i : Int) := by omega
      have k7 : (i : Int) < (n : Int) := by omega
      have k8 : (n : Int) ≤ (c : Int) := by omega
      have k9 : (n : Int) ≤ (d : Int) := by omega
      have w1 : IntKind.i64.wrap ((i : Int) + 1) = (i : Int) + 1 := IntWalk.i64_in _ (by omega)
      have HH := Lib.hid H
      have HLT := Lib.hid hlt
      clear hb hb' he hf hlt HB
      by_cases hef : e = f
      · subst hef
        have hq := ev_neq e.kind e.prod e.id e.body e.hep e.hno e.kind e.prod e.id e.body e.hep e.hno
        rw [evNe_self] at hq
        obtain ⟨e0, e1, e2, e3, e4, e5⟩ := e
        dsimp only at q0 q1 q2 q3 q4 q5 r0 r1 r2 r3 r4 r5 hq
        go_upto_region 6 with fail
        clear H
        go_quiet (fail)
        have H := HH.out.drewN nq
        clear HH q0 q1 q2 q3 q4 q5 r0 r1 r2 r3 r4 r5 hq
        go_wp2_with fail
        go_roundw
        case rel =>
          refine ⟨i + 1, by have := HLT.out; omega, by go_num, fun j hj => ?_, H⟩
          rcases Nat.lt_succ_iff_lt_or_eq.1 hj with h | rfl
          · exact HALL.out j h
          · rw [HE.out, HG.out]
        case measure => have := HLT.out; simp [intOf]; omega
      · have hq := ev_neq e.kind e.prod e.id e.body e.hep e.hno f.kind f.prod f.id f.body f.hep f.hno
        rw [evNe_of hef] at hq
        have HC := Lib.hid (show EqOk false es fs from ⟨fun h => (by cases h), fun h => absurd (by rw [← HE.out, ← HG.out, h]) hef⟩)
        clear HE HG hef
        obtain ⟨e0, e1, e2, e3, e4, e5⟩ := e
        obtain ⟨f0, f1, f2, f3, f4, f5⟩ := f
        dsimp only at q0 q1 q2 q3 q4 q5 r0 r1 r2 r3 r4 r5 hq
        go_upto_region 6 with fail
        clear H
        go_quiet (fail)
        have H := HH.out.drewN nq
        clear HH q0 q1 q2 q3 q4 q5 r0 r1 r2 r3 r4 r5 hq
        go_wp2_with fail
        exact HF.out _ _ HC.out H
    · obtain rfl : i = n := by omega
      have HC := Lib.hid (show EqOk true es fs from ⟨fun _ => same_of_getD (by rw [HN.out, HM.out]) (fun j hj => HALL.out j (by rw [HN.out] at hj; exact hj)), fun _ => rfl⟩)
      have hlt2 : ¬ (i : Int) < (i : Int) := by omega
      clear hlt hi
      go_wp2_with fail
      exact HF.out _ _ HC.out H

end Go.Proofs.Ytjmncbfmjeeneaa

namespace Go.Proofs.Ytjmncbfmjeeneaa
open Go.RowKit

set_option linter.unusedVariables false
def BM.known (b : BM) (k : Nat) (l : List Ev) : Nat := min (b.es.length - k) l.length
/-- a berth behind an import that goes through -/
def BM.imported (b : BM) (k : Nat) (l : List Ev) (last : Bool) : BM :=
  if last = true then ⟨1, b.ep, 0, 0, 0, b.es ++ l.drop (b.known k l) ++ [⟨4, 0, 0, 0, 0, 0⟩]⟩ else ⟨b.role, b.ep, b.frm, b.dst, b.rounds, b.es ++ l.drop (b.known k l)⟩
/-- what is known is the same -/
def BM.alike (b : BM) (k : Nat) (l : List Ev) : Prop := (b.es.drop k).take (b.known k l) = (l.drop 0).take (b.known k l)
open Classical in
noncomputable def BM.importR (b : BM) (ep k : Int) (l : List Ev) (last : Bool) : BM × Int :=
  if b.role ≠ 4 then (BM.zero, 7) else if b.ep ≠ ep then (BM.zero, 15) else if k < 0 ∨ (b.es.length : Int) < k then (BM.zero, 2)
  else if ¬ b.alike k.toNat l then (BM.zero, 3) else if last = true ∧ k.toNat + l.length < b.es.length then (BM.zero, 3) else (b.imported k.toNat l last, 0)

set_option maxRecDepth 100000 in
set_option maxHeartbeats 8000000 in
theorem import_none0 {w0 w : World} {I : List It} (be bf bd br ep k : Int) (es l : List Ev) (A B : Option Addr) (n c p d m : Nat) (last : Bool) (hl : es.length = n) (hlp : l.length = p) (hb : (⟨0, be, bf, bd, br, es⟩ : BM).Ok m) (hm : m ≤ 150) (hp : p ≤ 150) (hc : n ≤ c) (hd : p ≤ d) (H : St w0 w I) [h : Has I (evIt A es)] [h2 : Has I (evIt B l)] :
    Calls Try.prog 48 #[.agg (bArr ⟨0, be, bf, bd, br, es⟩ A n c), .int .i64 ep, .int .i64 k, .slice B p d, .bool last] w (BPost w0 I (⟨0, 0, 0, 0, 0, []⟩, 7)) := by
  have hn : n ≤ 150 := by have := hb.len; have : n ≤ m := hl ▸ this; omega
  have HI := Lib.hid h
  have HI2 := Lib.hid h2
  have HB := Lib.hid hb
  have HL := Lib.hid hl
  have HLP := Lib.hid hlp
  clear h h2 hb hl hlp
  unfold bArr
  dsimp only
  have HF := Lib.hid (fun W (h2 : St w0 W I) => (BPost.mk (r := (⟨0, 0, 0, 0, 0, []⟩, 7)) (n := 0) (c := 0) (A := none) rfl (Nat.le_refl _) (h2.old (s := 6) (n := 0) (A := none) (xs := []) Reads.none_) : BPost w0 I (⟨0, 0, 0, 0, 0, []⟩, 7) (.returned (.tuple #[.agg #[.int .i64 0, .int .i64 0, .int .i64 0, .int .i64 0, .int .i64 0, .slice none 0 0], .int .i64 7])) W))
  generalize BPost w0 I (⟨0, 0, 0, 0, 0, []⟩, 7) = POST at *
  go_enter Try.func48, Try.ntmps48
  go_wp2_with (first | (go_at_call 41; have h := HI.out; refine (check_st ⟨0, be, bf, bd, br, es⟩ A n c m HL.out HB.out hm hc H).mono ?_; clear H h; rintro ed wy ⟨rfl, H⟩) | (first | ((with_reducible refine here_load ?_); first | refine ldR H rfl _ _ rfl rfl (by kernel_rfl) ?_ | refine ldS H rfl _ _ rfl rfl (by rfl) ?_ | refine ldSG H (by rfl) _ _ rfl rfl (by rfl) ?_ | refine ldRG H (by rfl) _ _ rfl rfl (by kernel_rfl) ?_) | ((with_reducible refine here_store ?_); first | (refine stR H rfl _ _ _ rfl rfl rfl (by rfl) (by rfl) (by kernel_rfl) ?_; clear H; intro wx H) | (refine stS H rfl _ _ _ rfl rfl _ rfl (by rfl) (by rfl) (by rfl) ?_; clear H; intro wx H)) | ((with_reducible refine here_alloc ?_); first | (refine wpList_alloc_st H rfl 37 rfl _ q_zero ?_; clear H; intro gq wx H) | (refine wpList_alloc_st H rfl 48 rfl _ ans_zero ?_; clear H; intro ga wx H) | (refine wpList_alloc_st H rfl 44 rfl _ ev_zero ?_; clear H; intro ge wx H) | (refine wpList_alloc_st H rfl 58 rfl _ ber_zero ?_; clear H; intro gr wx H)) | ((with_reducible refine here_box ?_); refine wpList_box_st H rfl _ _ rfl _ rfl ?_; clear H; intro gb wx H)))
  have l4 : (loadVar 58 ⟨gr, 0, none⟩).run Try.prog wx = .ok (.agg #[.int .i64 0, .int .i64 0, .int .i64 0, .int .i64 0, .int .i64 0, .slice none 0 0]) wx := H.loadRow 58 gr row_Berth (P := Try.prog) (by kernel_rfl)
  exact bodyPost_ret (v := .tuple #[.agg #[.int .i64 0, .int .i64 0, .int .i64 0, .int .i64 0, .int .i64 0, .slice none 0 0], .int .i64 7]) (by simp [results, Try.results48, asAddr, l4]) rfl (HF.out _ (H.subm _))
set_option maxRecDepth 100000 in
set_option maxHeartbeats 8000000 in
theorem import_none1 {w0 w : World} {I : List It} (be bf bd br ep k : Int) (es l : List Ev) (A B : Option Addr) (n c p d m : Nat) (last : Bool) (hl : es.length = n) (hlp : l.length = p) (hb : (⟨1, be, bf, bd, br, es⟩ : BM).Ok m) (hm : m ≤ 150) (hp : p ≤ 150) (hc : n ≤ c) (hd : p ≤ d) (H : St w0 w I) [h : Has I (evIt A es)] [h2 : Has I (evIt B l)] :
    Calls Try.prog 48 #[.agg (bArr ⟨1, be, bf, bd, br, es⟩ A n c), .int .i64 ep, .int .i64 k, .slice B p d, .bool last] w (BPost w0 I (⟨0, 0, 0, 0, 0, []⟩, 7)) := by
  have hn : n ≤ 150 := by have := hb.len; have : n ≤ m := hl ▸ this; omega
  have HI := Lib.hid h
  have HI2 := Lib.hid h2
  have HB := Lib.hid hb
  have HL := Lib.hid hl
  have HLP := Lib.hid hlp
  clear h h2 hb hl hlp
  unfold bArr
  dsimp only
  have HF := Lib.hid (fun W (h2 : St w0 W I) => (BPost.mk (r := (⟨0, 0, 0, 0, 0, []⟩, 7)) (n := 0) (c := 0) (A := none) rfl (Nat.le_refl _) (h2.old (s := 6) (n := 0) (A := none) (xs := []) Reads.none_) : BPost w0 I (⟨0, 0, 0, 0, 0, []⟩, 7) (.returned (.tuple #[.agg #[.int .i64 0, .int .i64 0, .int .i64 0, .int .i64 0, .int .i64 0, .slice none 0 0], .int .i64 7])) W))
  generalize BPost w0 I (⟨0, 0, 0, 0, 0, []⟩, 7) = POST at *
  go_enter Try.func48, Try.ntmps48
  go_wp2_with (first | (go_at_call 41; have h := HI.out; refine (check_st ⟨1, be, bf, bd, br, es⟩ A n c m HL.out HB.out hm hc H).mono ?_; clear H h; rintro ed wy ⟨rfl, H⟩) | (first | ((with_reducible refine here_load ?_); first | refine ldR H rfl _ _ rfl rfl (by kernel_rfl) ?_ | refine ldS H rfl _ _ rfl rfl (by rfl) ?_ | refine ldSG H (by rfl) _ _ rfl rfl (by rfl) ?_ | refine ldRG H (by rfl) _ _ rfl rfl (by kernel_rfl) ?_) | ((with_reducible refine here_store ?_); first | (refine stR H rfl _ _ _ rfl rfl rfl (by rfl) (by rfl) (by kernel_rfl) ?_; clear H; intro wx H) | (refine stS H rfl _ _ _ rfl rfl _ rfl (by rfl) (by rfl) (by rfl) ?_; clear H; intro wx H)) | ((with_reducible refine here_alloc ?_); first | (refine wpList_alloc_st H rfl 37 rfl _ q_zero ?_; clear H; intro gq wx H) | (refine wpList_alloc_st H rfl 48 rfl _ ans_zero ?_; clear H; intro ga wx H) | (refine wpList_alloc_st H rfl 44 rfl _ ev_zero ?_; clear H; intro ge wx H) | (refine wpList_alloc_st H rfl 58 rfl _ ber_zero ?_; clear H; intro gr wx H)) | ((with_reducible refine here_box ?_); refine wpList_box_st H rfl _ _ rfl _ rfl ?_; clear H; intro gb wx H)))
  have l4 : (loadVar 58 ⟨gr, 0, none⟩).run Try.prog wx = .ok (.agg #[.int .i64 0, .int .i64 0, .int .i64 0, .int .i64 0, .int .i64 0, .slice none 0 0]) wx := H.loadRow 58 gr row_Berth (P := Try.prog) (by kernel_rfl)
  exact bodyPost_ret (v := .tuple #[.agg #[.int .i64 0, .int .i64 0, .int .i64 0, .int .i64 0, .int .i64 0, .slice none 0 0], .int .i64 7]) (by simp [results, Try.results48, asAddr, l4]) rfl (HF.out _ (H.subm _))
set_option maxRecDepth 100000 in
set_option maxHeartbeats 8000000 in
theorem import_none2 {w0 w : World} {I : List It} (be bf bd br ep k : Int) (es l : List Ev) (A B : Option Addr) (n c p d m : Nat) (last : Bool) (hl : es.length = n) (hlp : l.length = p) (hb : (⟨2, be, bf, bd, br, es⟩ : BM).Ok m) (hm : m ≤ 150) (hp : p ≤ 150) (hc : n ≤ c) (hd : p ≤ d) (H : St w0 w I) [h : Has I (evIt A es)] [h2 : Has I (evIt B l)] :
    Calls Try.prog 48 #[.agg (bArr ⟨2, be, bf, bd, br, es⟩ A n c), .int .i64 ep, .int .i64 k, .slice B p d, .bool last] w (BPost w0 I (⟨0, 0, 0, 0, 0, []⟩, 7)) := by
  have hn : n ≤ 150 := by have := hb.len; have : n ≤ m := hl ▸ this; omega
  have HI := Lib.hid h
  have HI2 := Lib.hid h2
  have HB := Lib.hid hb
  have HL := Lib.hid hl
  have HLP := Lib.hid hlp
  clear h h2 hb hl hlp
  unfold bArr
  dsimp only
  have HF := Lib.hid (fun W (h2 : St w0 W I) => (BPost.mk (r := (⟨0, 0, 0, 0, 0, []⟩, 7)) (n := 0) (c := 0) (A := none) rfl (Nat.le_refl _) (h2.old (s := 6) (n := 0) (A := none) (xs := []) Reads.none_) : BPost w0 I (⟨0, 0, 0, 0, 0, []⟩, 7) (.returned (.tuple #[.agg #[.int .i64 0, .int .i64 0, .int .i64 0, .int .i64 0, .int .i64 0, .slice none 0 0], .int .i64 7])) W))
  generalize BPost w0 I (⟨0, 0, 0, 0, 0, []⟩, 7) = POST at *
  go_enter Try.func48, Try.ntmps48
  go_wp2_with (first | (go_at_call 41; have h := HI.out; refine (check_st ⟨2, be, bf, bd, br, es⟩ A n c m HL.out HB.out hm hc H).mono ?_; clear H h; rintro ed wy ⟨rfl, H⟩) | (first | ((with_reducible refine here_load ?_); first | refine ldR H rfl _ _ rfl rfl (by kernel_rfl) ?_ | refine ldS H rfl _ _ rfl rfl (by rfl) ?_ | refine ldSG H (by rfl) _ _ rfl rfl (by rfl) ?_ | refine ldRG H (by rfl) _ _ rfl rfl (by kernel_rfl) ?_) | ((with_reducible refine here_store ?_); first | (refine stR H rfl _ _ _ rfl rfl rfl (by rfl) (by rfl) (by kernel_rfl) ?_; clear H; intro wx H) | (refine stS H rfl _ _ _ rfl rfl _ rfl (by rfl) (by rfl) (by rfl) ?_; clear H; intro wx H)) | ((with_reducible refine here_alloc ?_); first | (refine wpList_alloc_st H rfl 37 rfl _ q_zero ?_; clear H; intro gq wx H) | (refine wpList_alloc_st H rfl 48 rfl _ ans_zero ?_; clear H; intro ga wx H) | (refine wpList_alloc_st H rfl 44 rfl _ ev_zero ?_; clear H; intro ge wx H) | (refine wpList_alloc_st H rfl 58 rfl _ ber_zero ?_; clear H; intro gr wx H)) | ((with_reducible refine here_box ?_); refine wpList_box_st H rfl _ _ rfl _ rfl ?_; clear H; intro gb wx H)))
  have l4 : (loadVar 58 ⟨gr, 0, none⟩).run Try.prog wx = .ok (.agg #[.int .i64 0, .int .i64 0, .int .i64 0, .int .i64 0, .int .i64 0, .slice none 0 0]) wx := H.loadRow 58 gr row_Berth (P := Try.prog) (by kernel_rfl)
  exact bodyPost_ret (v := .tuple #[.agg #[.int .i64 0, .int .i64 0, .int .i64 0, .int .i64 0, .int .i64 0, .slice none 0 0], .int .i64 7]) (by simp [results, Try.results48, asAddr, l4]) rfl (HF.out _ (H.subm _))
set_option maxRecDepth 100000 in
set_option maxHeartbeats 8000000 in
theorem import_none3 {w0 w : World} {I : List It} (be bf bd br ep k : Int) (es l : List Ev) (A B : Option Addr) (n c p d m : Nat) (last : Bool) (hl : es.length = n) (hlp : l.length = p) (hb : (⟨3, be, bf, bd, br, es⟩ : BM).Ok m) (hm : m ≤ 150) (hp : p ≤ 150) (hc : n ≤ c) (hd : p ≤ d) (H : St w0 w I) [h : Has I (evIt A es)] [h2 : Has I (evIt B l)] :
    Calls Try.prog 48 #[.agg (bArr ⟨3, be, bf, bd, br, es⟩ A n c), .int .i64 ep, .int .i64 k, .slice B p d, .bool last] w (BPost w0 I (⟨0, 0, 0, 0, 0, []⟩, 7)) := by
  have hn : n ≤ 150 := by have := hb.len; have : n ≤ m := hl ▸ this; omega
  have HI := Lib.hid h
  have HI2 := Lib.hid h2
  have HB := Lib.hid hb
  have HL := Lib.hid hl
  have HLP := Lib.hid hlp
  clear h h2 hb hl hlp
  unfold bArr
  dsimp only
  have HF := Lib.hid (fun W (h2 : St w0 W I) => (BPost.mk (r := (⟨0, 0, 0, 0, 0, []⟩, 7)) (n := 0) (c := 0) (A := none) rfl (Nat.le_refl _) (h2.old (s := 6) (n := 0) (A := none) (xs := []) Reads.none_) : BPost w0 I (⟨0, 0, 0, 0, 0, []⟩, 7) (.returned (.tuple #[.agg #[.int .i64 0, .int .i64 0, .int .i64 0, .int .i64 0, .int .i64 0, .slice none 0 0], .int .i64 7])) W))
  generalize BPost w0 I (⟨0, 0, 0, 0, 0, []⟩, 7) = POST at *
  go_enter Try.func48, Try.ntmps48
  go_wp2_with (first | (go_at_call 41; have h := HI.out; refine (check_st ⟨3, be, bf, bd, br, es⟩ A n c m HL.out HB.out hm hc H).mono ?_; clear H h; rintro ed wy ⟨rfl, H⟩) | (first | ((with_reducible refine here_load ?_); first | refine ldR H rfl _ _ rfl rfl (by kernel_rfl) ?_ | refine ldS H rfl _ _ rfl rfl (by rfl) ?_ | refine ldSG H (by rfl) _ _ rfl rfl (by rfl) ?_ | refine ldRG H (by rfl) _ _ rfl rfl (by kernel_rfl) ?_) | ((with_reducible refine here_store ?_); first | (refine stR H rfl _ _ _ rfl rfl rfl (by rfl) (by rfl) (by kernel_rfl) ?_; clear H; intro wx H) | (refine stS H rfl _ _ _ rfl rfl _ rfl (by rfl) (by rfl) (by rfl) ?_; clear H; intro wx H)) | ((with_reducible refine here_alloc ?_); first | (refine wpList_alloc_st H rfl 37 rfl _ q_zero ?_; clear H; intro gq wx H) | (refine wpList_alloc_st H rfl 48 rfl _ ans_zero ?_; clear H; intro ga wx H) | (refine wpList_alloc_st H rfl 44 rfl _ ev_zero ?_; clear H; intro ge wx H) | (refine wpList_alloc_st H rfl 58 rfl _ ber_zero ?_; clear H; intro gr wx H)) | ((with_reducible refine here_box ?_); refine wpList_box_st H rfl _ _ rfl _ rfl ?_; clear H; intro gb wx H)))
  have l4 : (loadVar 58 ⟨gr, 0, none⟩).run Try.prog wx = .ok (.agg #[.int .i64 0, .int .i64 0, .int .i64 0, .int .i64 0, .int .i64 0, .slice none 0 0]) wx := H.loadRow 58 gr row_Berth (P := Try.prog) (by kernel_rfl)
  exact bodyPost_ret (v := .tuple #[.agg #[.int .i64 0, .int .i64 0, .int .i64 0, .int .i64 0, .int .i64 0, .slice none 0 0], .int .i64 7]) (by simp [results, Try.results48, asAddr, l4]) rfl (HF.out _ (H.subm _))
set_option maxRecDepth 100000 in
set_option maxHeartbeats 8000000 in
theorem import_epoch {w0 w : World} {I : List It} (be bf bd br ep k : Int) (es l : List Ev) (A B : Option Addr) (n c p d m : Nat) (last : Bool) (hl : es.length = n) (hlp : l.length = p) (hb : (⟨4, be, bf, bd, br, es⟩ : BM).Ok m) (hm : m ≤ 150) (hp : p ≤ 150) (hc : n ≤ c) (hd : p ≤ d) (he : be ≠ ep) (H : St w0 w I) [h : Has I (evIt A es)] [h2 : Has I (evIt B l)] :
    Calls Try.prog 48 #[.agg (bArr ⟨4, be, bf, bd, br, es⟩ A n c), .int .i64 ep, .int .i64 k, .slice B p d, .bool last] w (BPost w0 I (⟨0, 0, 0, 0, 0, []⟩, 15)) := by
  have hn : n ≤ 150 := by have := hb.len; have : n ≤ m := hl ▸ this; omega
  have HI := Lib.hid h
  have HI2 := Lib.hid h2
  have HB := Lib.hid hb
  have HL := Lib.hid hl
  have HLP := Lib.hid hlp
  clear h h2 hb hl hlp
  unfold bArr
  dsimp only
  have g1a : ((be : Int) == ep) = false := by simp; omega
  have g1b : decide ((be : Int) = ep) = false := by simp; omega
  have g2 : ((be : Int) != ep) = true := by simpa using he
  clear he
  have HF := Lib.hid (fun W (h2 : St w0 W I) => (BPost.mk (r := (⟨0, 0, 0, 0, 0, []⟩, 15)) (n := 0) (c := 0) (A := none) rfl (Nat.le_refl _) (h2.old (s := 6) (n := 0) (A := none) (xs := []) Reads.none_) : BPost w0 I (⟨0, 0, 0, 0, 0, []⟩, 15) (.returned (.tuple #[.agg #[.int .i64 0, .int .i64 0, .int .i64 0, .int .i64 0, .int .i64 0, .slice none 0 0], .int .i64 15])) W))
  generalize BPost w0 I (⟨0, 0, 0, 0, 0, []⟩, 15) = POST at *
  go_enter Try.func48, Try.ntmps48
  go_wp2_with (first | (go_at_call 41; have h := HI.out; refine (check_st ⟨4, be, bf, bd, br, es⟩ A n c m HL.out HB.out hm hc H).mono ?_; clear H h; rintro ed wy ⟨rfl, H⟩) | (first | ((with_reducible refine here_load ?_); first | refine ldR H rfl _ _ rfl rfl (by kernel_rfl) ?_ | refine ldS H rfl _ _ rfl rfl (by rfl) ?_ | refine ldSG H (by rfl) _ _ rfl rfl (by rfl) ?_ | refine ldRG H (by rfl) _ _ rfl rfl (by kernel_rfl) ?_) | ((with_reducible refine here_store ?_); first | (refine stR H rfl _ _ _ rfl rfl rfl (by rfl) (by rfl) (by kernel_rfl) ?_; clear H; intro wx H) | (refine stS H rfl _ _ _ rfl rfl _ rfl (by rfl) (by rfl) (by rfl) ?_; clear H; intro wx H)) | ((with_reducible refine here_alloc ?_); first | (refine wpList_alloc_st H rfl 37 rfl _ q_zero ?_; clear H; intro gq wx H) | (refine wpList_alloc_st H rfl 48 rfl _ ans_zero ?_; clear H; intro ga wx H) | (refine wpList_alloc_st H rfl 44 rfl _ ev_zero ?_; clear H; intro ge wx H) | (refine wpList_alloc_st H rfl 58 rfl _ ber_zero ?_; clear H; intro gr wx H)) | ((with_reducible refine here_box ?_); refine wpList_box_st H rfl _ _ rfl _ rfl ?_; clear H; intro gb wx H)))
  have l4 : (loadVar 58 ⟨gr, 0, none⟩).run Try.prog wx = .ok (.agg #[.int .i64 0, .int .i64 0, .int .i64 0, .int .i64 0, .int .i64 0, .slice none 0 0]) wx := H.loadRow 58 gr row_Berth (P := Try.prog) (by kernel_rfl)
  exact bodyPost_ret (v := .tuple #[.agg #[.int .i64 0, .int .i64 0, .int .i64 0, .int .i64 0, .int .i64 0, .slice none 0 0], .int .i64 15]) (by simp [results, Try.results48, asAddr, l4]) rfl (HF.out _ (H.subm _))
set_option maxRecDepth 100000 in
set_option maxHeartbeats 8000000 in
theorem import_low {w0 w : World} {I : List It} (be bf bd br k : Int) (es l : List Ev) (A B : Option Addr) (n c p d m : Nat) (last : Bool) (hl : es.length = n) (hlp : l.length = p) (hb : (⟨4, be, bf, bd, br, es⟩ : BM).Ok m) (hm : m ≤ 150) (hp : p ≤ 150) (hc : n ≤ c) (hd : p ≤ d) (hk : k < 0) (H : St w0 w I) [h : Has I (evIt A es)] [h2 : Has I (evIt B l)] :
    Calls Try.prog 48 #[.agg (bArr ⟨4, be, bf, bd, br, es⟩ A n c), .int .i64 be, .int .i64 k, .slice B p d, .bool last] w (BPost w0 I (⟨0, 0, 0, 0, 0, []⟩, 2)) := by
  have hn : n ≤ 150 := by have := hb.len; have : n ≤ m := hl ▸ this; omega
  have HI := Lib.hid h
  have HI2 := Lib.hid h2
  have HB := Lib.hid hb
  have HL := Lib.hid hl
  have HLP := Lib.hid hlp
  clear h h2 hb hl hlp
  unfold bArr
  dsimp only
  have d1 := decide_eq_true hk
  have HF := Lib.hid (fun W (h2 : St w0 W I) => (BPost.mk (r := (⟨0, 0, 0, 0, 0, []⟩, 2)) (n := 0) (c := 0) (A := none) rfl (Nat.le_refl _) (h2.old (s := 6) (n := 0) (A := none) (xs := []) Reads.none_) : BPost w0 I (⟨0, 0, 0, 0, 0, []⟩, 2) (.returned (.tuple #[.agg #[.int .i64 0, .int .i64 0, .int .i64 0, .int .i64 0, .int .i64 0, .slice none 0 0], .int .i64 2])) W))
  generalize BPost w0 I (⟨0, 0, 0, 0, 0, []⟩, 2) = POST at *
  go_enter Try.func48, Try.ntmps48
  go_wp2_with (first | (go_at_call 41; have h := HI.out; refine (check_st ⟨4, be, bf, bd, br, es⟩ A n c m HL.out HB.out hm hc H).mono ?_; clear H h; rintro ed wy ⟨rfl, H⟩) | (first | ((with_reducible refine here_load ?_); first | refine ldR H rfl _ _ rfl rfl (by kernel_rfl) ?_ | refine ldS H rfl _ _ rfl rfl (by rfl) ?_ | refine ldSG H (by rfl) _ _ rfl rfl (by rfl) ?_ | refine ldRG H (by rfl) _ _ rfl rfl (by kernel_rfl) ?_) | ((with_reducible refine here_store ?_); first | (refine stR H rfl _ _ _ rfl rfl rfl (by rfl) (by rfl) (by kernel_rfl) ?_; clear H; intro wx H) | (refine stS H rfl _ _ _ rfl rfl _ rfl (by rfl) (by rfl) (by rfl) ?_; clear H; intro wx H)) | ((with_reducible refine here_alloc ?_); first | (refine wpList_alloc_st H rfl 37 rfl _ q_zero ?_; clear H; intro gq wx H) | (refine wpList_alloc_st H rfl 48 rfl _ ans_zero ?_; clear H; intro ga wx H) | (refine wpList_alloc_st H rfl 44 rfl _ ev_zero ?_; clear H; intro ge wx H) | (refine wpList_alloc_st H rfl 58 rfl _ ber_zero ?_; clear H; intro gr wx H)) | ((with_reducible refine here_box ?_); refine wpList_box_st H rfl _ _ rfl _ rfl ?_; clear H; intro gb wx H)))
  have l4 : (loadVar 58 ⟨gr, 0, none⟩).run Try.prog wx = .ok (.agg #[.int .i64 0, .int .i64 0, .int .i64 0, .int .i64 0, .int .i64 0, .slice none 0 0]) wx := H.loadRow 58 gr row_Berth (P := Try.prog) (by kernel_rfl)
  exact bodyPost_ret (v := .tuple #[.agg #[.int .i64 0, .int .i64 0, .int .i64 0, .int .i64 0, .int .i64 0, .slice none 0 0], .int .i64 2]) (by simp [results, Try.results48, asAddr, l4]) rfl (HF.out _ (H.subm _))
set_option maxRecDepth 100000 in
set_option maxHeartbeats 8000000 in
theorem import_high {w0 w : World} {I : List It} (be bf bd br k : Int) (es l : List Ev) (A B : Option Addr) (n c p d m : Nat) (last : Bool) (hl : es.length = n) (hlp : l.length = p) (hb : (⟨4, be, bf, bd, br, es⟩ : BM).Ok m) (hm : m ≤ 150) (hp : p ≤ 150) (hc : n ≤ c) (hd : p ≤ d) (hk : (n : Int) < k) (H : St w0 w I) [h : Has I (evIt A es)] [h2 : Has I (evIt B l)] :
    Calls Try.prog 48 #[.agg (bArr ⟨4, be, bf, bd, br, es⟩ A n c), .int .i64 be, .int .i64 k, .slice B p d, .bool last] w (BPost w0 I (⟨0, 0, 0, 0, 0, []⟩, 2)) := by
  have hn : n ≤ 150 := by have := hb.len; have : n ≤ m := hl ▸ this; omega
  have HI := Lib.hid h
  have HI2 := Lib.hid h2
  have HB := Lib.hid hb
  have HL := Lib.hid hl
  have HLP := Lib.hid hlp
  clear h h2 hb hl hlp
  unfold bArr
  dsimp only
  have d2 := decide_eq_true hk
  have d0 : ¬ k < 0 := by omega
  have d1 := decide_eq_false d0
  have HF := Lib.hid (fun W (h2 : St w0 W I) => (BPost.mk (r := (⟨0, 0, 0, 0, 0, []⟩, 2)) (n := 0) (c := 0) (A := none) rfl (Nat.le_refl _) (h2.old (s := 6) (n := 0) (A := none) (xs := []) Reads.none_) : BPost w0 I (⟨0, 0, 0, 0, 0, []⟩, 2) (.returned (.tuple #[.agg #[.int .i64 0, .int .i64 0, .int .i64 0, .int .i64 0, .int .i64 0, .slice none 0 0], .int .i64 2])) W))
  generalize BPost w0 I (⟨0, 0, 0, 0, 0, []⟩, 2) = POST at *
  go_enter Try.func48, Try.ntmps48
  go_wp2_with (first | (go_at_call 41; have h := HI.out; refine (check_st ⟨4, be, bf, bd, br, es⟩ A n c m HL.out HB.out hm hc H).mono ?_; clear H h; rintro ed wy ⟨rfl, H⟩) | (first | ((with_reducible refine here_load ?_); first | refine ldR H rfl _ _ rfl rfl (by kernel_rfl) ?_ | refine ldS H rfl _ _ rfl rfl (by rfl) ?_ | refine ldSG H (by rfl) _ _ rfl rfl (by rfl) ?_ | refine ldRG H (by rfl) _ _ rfl rfl (by kernel_rfl) ?_) | ((with_reducible refine here_store ?_); first | (refine stR H rfl _ _ _ rfl rfl rfl (by rfl) (by rfl) (by kernel_rfl) ?_; clear H; intro wx H) | (refine stS H rfl _ _ _ rfl rfl _ rfl (by rfl) (by rfl) (by rfl) ?_; clear H; intro wx H)) | ((with_reducible refine here_alloc ?_); first | (refine wpList_alloc_st H rfl 37 rfl _ q_zero ?_; clear H; intro gq wx H) | (refine wpList_alloc_st H rfl 48 rfl _ ans_zero ?_; clear H; intro ga wx H) | (refine wpList_alloc_st H rfl 44 rfl _ ev_zero ?_; clear H; intro ge wx H) | (refine wpList_alloc_st H rfl 58 rfl _ ber_zero ?_; clear H; intro gr wx H)) | ((with_reducible refine here_box ?_); refine wpList_box_st H rfl _ _ rfl _ rfl ?_; clear H; intro gb wx H)))
  have l4 : (loadVar 58 ⟨gr, 0, none⟩).run Try.prog wx = .ok (.agg #[.int .i64 0, .int .i64 0, .int .i64 0, .int .i64 0, .int .i64 0, .slice none 0 0]) wx := H.loadRow 58 gr row_Berth (P := Try.prog) (by kernel_rfl)
  exact bodyPost_ret (v := .tuple #[.agg #[.int .i64 0, .int .i64 0, .int .i64 0, .int .i64 0, .int .i64 0, .slice none 0 0], .int .i64 2]) (by simp [results, Try.results48, asAddr, l4]) rfl (HF.out _ (H.subm _))
set_option maxRecDepth 100000 in
set_option maxHeartbeats 8000000 in
theorem import_unlike {w0 w : World} {I : List It} (be bf bd br : Int) (es l : List Ev) (A B : Option Addr) (n c p d m k N : Nat) (last : Bool) (hl : es.length = n) (hlp : l.length = p) (hb : (⟨4, be, bf, bd, br, es⟩ : BM).Ok m) (hm : m ≤ 150) (hp : p ≤ 150) (hc : n ≤ c) (hd : p ≤ d) (hk : k ≤ n) (hN : min (n - k) p = N) (hx : ¬ (es.drop k).take N = (l.drop 0).take N) (H : St w0 w I) [h : Has I (evIt A es)] [h2 : Has I (evIt B l)] :
    Calls Try.prog 48 #[.agg (bArr ⟨4, be, bf, bd, br, es⟩ A n c), .int .i64 be, .int .i64 k, .slice B p d, .bool last] w (BPost w0 I (⟨0, 0, 0, 0, 0, []⟩, 3)) := by
  have hn : n ≤ 150 := by have := hb.len; have : n ≤ m := hl ▸ this; omega
  have HI := Lib.hid h
  have HI2 := Lib.hid h2
  have HB := Lib.hid hb
  have HL := Lib.hid hl
  have HLP := Lib.hid hlp
  clear h h2 hb hl hlp
  unfold bArr
  dsimp only
  have d0 : ¬ (k : Int) < 0 := by omega
  have d1 := decide_eq_false d0
  have d3 : ¬ (n : Int) < (k : Int) := by omega
  have d2 := decide_eq_false d3
  have w1 : IntKind.i64.wrap ((n : Int) - (k : Int)) = (n : Int) - (k : Int) := IntWalk.i64_in _ (by omega)
  have hmin : min ((n : Int) - (k : Int)) (p : Int) = (N : Int) := by omega
  have w2 : IntKind.i64.wrap ((k : Int) + (N : Int)) = (k : Int) + (N : Int) := IntWalk.i64_in _ (by omega)
  have w3 : IntKind.i64.wrap ((k : Int) + (p : Int)) = (k : Int) + (p : Int) := IntWalk.i64_in _ (by omega)
  have n1 : k + N ≤ n := by omega
  have n2 : N ≤ p := by omega
  have HN1 := Lib.hid (show ((es.drop k).take N).length = N by simp; have := HL.out; omega)
  have HN2 := Lib.hid (show ((l.drop 0).take N).length = N by simp; have := HLP.out; omega)
  have HF := Lib.hid (fun W (h2 : St w0 W I) => (BPost.mk (r := (⟨0, 0, 0, 0, 0, []⟩, 3)) (n := 0) (c := 0) (A := none) rfl (Nat.le_refl _) (h2.old (s := 6) (n := 0) (A := none) (xs := []) Reads.none_) : BPost w0 I (⟨0, 0, 0, 0, 0, []⟩, 3) (.returned (.tuple #[.agg #[.int .i64 0, .int .i64 0, .int .i64 0, .int .i64 0, .int .i64 0, .slice none 0 0], .int .i64 3])) W))
  generalize BPost w0 I (⟨0, 0, 0, 0, 0, []⟩, 3) = POST at *
  go_enter Try.func48, Try.ntmps48
  go_upto_region 11 with (first | (go_at_call 41; have h := HI.out; refine (check_st ⟨4, be, bf, bd, br, es⟩ A n c m HL.out HB.out hm hc H).mono ?_; clear H h; rintro ed wy ⟨rfl, H⟩) | (first | ((with_reducible refine here_load ?_); first | refine ldR H rfl _ _ rfl rfl (by kernel_rfl) ?_ | refine ldS H rfl _ _ rfl rfl (by rfl) ?_ | refine ldSG H (by rfl) _ _ rfl rfl (by rfl) ?_ | refine ldRG H (by rfl) _ _ rfl rfl (by kernel_rfl) ?_) | ((with_reducible refine here_store ?_); first | (refine stR H rfl _ _ _ rfl rfl rfl (by rfl) (by rfl) (by kernel_rfl) ?_; clear H; intro wx H) | (refine stS H rfl _ _ _ rfl rfl _ rfl (by rfl) (by rfl) (by rfl) ?_; clear H; intro wx H)) | ((with_reducible refine here_alloc ?_); first | (refine wpList_alloc_st H rfl 37 rfl _ q_zero ?_; clear H; intro gq wx H) | (refine wpList_alloc_st H rfl 48 rfl _ ans_zero ?_; clear H; intro ga wx H) | (refine wpList_alloc_st H rfl 44 rfl _ ev_zero ?_; clear H; intro ge wx H) | (refine wpList_alloc_st H rfl 58 rfl _ ber_zero ?_; clear H; intro gr wx H)) | ((with_reducible refine here_box ?_); refine wpList_box_st H rfl _ _ rfl _ rfl ?_; clear H; intro gb wx H)))
  (try simp only [Act.put])
  
  refine startS (H.subm (.bl gb 58 #[.int .i64 4, .int .i64 be, .int .i64 bf, .int .i64 bd, .int .i64 br, .slice A n c] :: I)) (by kernel_rfl) (fun HS => ?_)
  replace H := H.drew
  refine takeV (i := 0) (v := ?_) rfl (by kernel_rfl) (by kernel_rfl) (by kernel_rfl) (fun _ _ _ h => h) (by rfl) ?_ HS ?_
  rotate_left
  · (intro W hW; go_simp; try with_reducible rfl)
  (try simp only [Act.put, List.setIfInBounds_toArray, List.set_cons_zero, List.set_cons_succ])
  refine take1_st (i := 1) 23 _ rfl rfl rfl sc_Evs _ (by rfl) (by kernel_rfl) (by kernel_rfl) (by kernel_rfl) (fun _ _ _ _ h => h) (by rfl) HS ?_
  (try simp only [Act.put, List.setIfInBounds_toArray, List.set_cons_zero, List.set_cons_succ])
  refine takeMove (i := 2) rfl rfl _ (by rfl) (by kernel_rfl) (by kernel_rfl) (by kernel_rfl) (fun _ _ _ _ h => h) (by rfl) HS ?_
  (try simp only [Act.put, List.setIfInBounds_toArray, List.set_cons_zero, List.set_cons_succ])
  refine takeMove (i := 3) rfl rfl _ (by rfl) (by kernel_rfl) (by kernel_rfl) (by kernel_rfl) (fun _ _ _ _ h => h) (by rfl) HS ?_
  (try simp only [Act.put, List.setIfInBounds_toArray, List.set_cons_zero, List.set_cons_succ])
  refine takeMove (i := 4) rfl rfl _ (by rfl) (by kernel_rfl) (by kernel_rfl) (by kernel_rfl) (fun _ _ _ _ h => h) (by rfl) HS ?_
  (try simp only [Act.put, List.setIfInBounds_toArray, List.set_cons_zero, List.set_cons_succ])
  refine takeV (i := 5) (v := ?_) rfl (by kernel_rfl) (by kernel_rfl) (by kernel_rfl) (fun _ _ _ h => h) (by rfl) ?_ HS ?_
  rotate_left
  · (intro W hW; go_simp; try with_reducible rfl)
  (try simp only [Act.put, List.setIfInBounds_toArray, List.set_cons_zero, List.set_cons_succ])
  refine takeMove (i := 6) rfl rfl _ (by rfl) (by kernel_rfl) (by kernel_rfl) (by kernel_rfl) (fun _ _ _ _ h => h) (by rfl) HS ?_
  (try simp only [Act.put, List.setIfInBounds_toArray, List.set_cons_zero, List.set_cons_succ])
  refine takeMove (i := 7) rfl rfl _ (by rfl) (by kernel_rfl) (by kernel_rfl) (by kernel_rfl) (fun _ _ _ _ h => h) (by rfl) HS ?_
  (try simp only [Act.put, List.setIfInBounds_toArray, List.set_cons_zero, List.set_cons_succ])
  refine takeV (i := 8) (v := ?_) rfl (by kernel_rfl) (by kernel_rfl) (by kernel_rfl) (fun _ _ _ h => h) (by rfl) ?_ HS ?_
  rotate_left
  · (intro W hW; go_simp; try with_reducible rfl)
  (try simp only [Act.put, List.setIfInBounds_toArray, List.set_cons_zero, List.set_cons_succ])
  refine takeSlice (i := 9) rfl rfl Try.underlying23 (s := 6) (by kernel_rfl) rfl (k) (k + N) (k + N) (.inl ⟨_, rfl, by omega⟩) (.inl ⟨_, rfl, by omega⟩) (.inl ⟨_, rfl, by omega⟩) (fun h => by cases h) (by omega) (by omega) (by omega) (N) (N) (by omega) (by omega) (by kernel_rfl) (by kernel_rfl) (by kernel_rfl) (fun _ _ _ _ h => h) (by rfl) HS ?_
  (try simp only [Act.put, List.setIfInBounds_toArray, List.set_cons_zero, List.set_cons_succ])
  refine takeMove (i := 10) rfl rfl _ (by rfl) (by kernel_rfl) (by kernel_rfl) (by kernel_rfl) (fun _ _ _ _ h => h) (by rfl) HS ?_
  (try simp only [Act.put, List.setIfInBounds_toArray, List.set_cons_zero, List.set_cons_succ])
  refine takeMove (i := 11) rfl rfl _ (by rfl) (by kernel_rfl) (by kernel_rfl) (by kernel_rfl) (fun _ _ _ _ h => h) (by rfl) HS ?_
  (try simp only [Act.put, List.setIfInBounds_toArray, List.set_cons_zero, List.set_cons_succ])
  refine takeMove (i := 12) rfl rfl _ (by rfl) (by kernel_rfl) (by kernel_rfl) (by kernel_rfl) (fun _ _ _ _ h => h) (by rfl) HS ?_
  (try simp only [Act.put, List.setIfInBounds_toArray, List.set_cons_zero, List.set_cons_succ])
  refine takeSlice (i := 13) rfl rfl Try.underlying23 (s := 6) (by kernel_rfl) rfl (0) (N) (N) (.inr ⟨rfl, rfl⟩) (.inl ⟨_, rfl, by omega⟩) (.inl ⟨_, rfl, by omega⟩) (fun h => by cases h) (by omega) (by omega) (by omega) (N) (N) (by omega) (by omega) (by kernel_rfl) (by kernel_rfl) (by kernel_rfl) (fun _ _ _ _ h => h) (by rfl) HS ?_
  (try simp only [Act.put, List.setIfInBounds_toArray, List.set_cons_zero, List.set_cons_succ])
  refine branchH [14] (by kernel_rfl) (by kernel_rfl) (AllStep.cons ?_ AllStep.nil)
  refine stepH_do (i := 14) rfl (by rfl) ?_
  have h := HI.out
  have h2 := HI2.out
  replace H := (H.subEv (A := A) (es := es) k N (k + N) (by rw [HL.out]; omega) (by omega)).subEv (A := B) (es := l) 0 N N (by rw [HLP.out]; omega) (by omega)
  refine wp_call_st rfl Try.func64 (by kernel_rfl) (by kernel_rfl) _ ?_ ((eqEv_st ((es.drop k).take N) ((l.drop 0).take N) (subA A k (k + N) 6) (subA B 0 N 6) N N N HN1.out HN2.out H (by omega) (Nat.le_refl _) (Nat.le_refl _)).mono ?_)
  · rfl
  clear H h h2
  rintro ed wy ⟨v, rfl, hv, H⟩
  obtain rfl : v = false := by
    cases v
    · rfl
    · exact absurd (hv.1 rfl) hx
  clear hv hx
  replace HS := HS.of H
  refine ⟨_, rfl, HS, ?_⟩
  (try simp only [Act.put, List.setIfInBounds_toArray, List.set_cons_zero, List.set_cons_succ])
  refine takeV (i := 15) (v := ?_) rfl (by kernel_rfl) (by kernel_rfl) (by kernel_rfl) (fun _ _ _ h => h) (by rfl) ?_ HS ?_
  rotate_left
  · (intro W hW; go_simp; try with_reducible rfl)
  (try simp only [Act.put, List.setIfInBounds_toArray, List.set_cons_zero, List.set_cons_succ])
  refine doneH (by kernel_rfl) ?_
  go_wp2_with (first | ((with_reducible refine here_load ?_); first | refine ldR H rfl _ _ rfl rfl (by kernel_rfl) ?_ | refine ldS H rfl _ _ rfl rfl (by rfl) ?_ | refine ldSG H (by rfl) _ _ rfl rfl (by rfl) ?_ | refine ldRG H (by rfl) _ _ rfl rfl (by kernel_rfl) ?_) | ((with_reducible refine here_store ?_); first | (refine stR H rfl _ _ _ rfl rfl rfl (by rfl) (by rfl) (by kernel_rfl) ?_; clear H; intro wx H) | (refine stS H rfl _ _ _ rfl rfl _ rfl (by rfl) (by rfl) (by rfl) ?_; clear H; intro wx H)) | ((with_reducible refine here_alloc ?_); first | (refine wpList_alloc_st H rfl 37 rfl _ q_zero ?_; clear H; intro gq2 wx H) | (refine wpList_alloc_st H rfl 48 rfl _ ans_zero ?_; clear H; intro ga2 wx H) | (refine wpList_alloc_st H rfl 44 rfl _ ev_zero ?_; clear H; intro ge2 wx H) | (refine wpList_alloc_st H rfl 58 rfl _ ber_zero ?_; clear H; intro gr2 wx H)) | ((with_reducible refine here_box ?_); refine wpList_box_st H rfl _ _ rfl _ rfl ?_; clear H; intro gb2 wx H))
  have l4 : (loadVar 58 ⟨gr, 0, none⟩).run Try.prog wx = .ok (.agg #[.int .i64 0, .int .i64 0, .int .i64 0, .int .i64 0, .int .i64 0, .slice none 0 0]) wx := H.loadRow 58 gr row_Berth (P := Try.prog) (by kernel_rfl)
  exact bodyPost_ret (v := .tuple #[.agg #[.int .i64 0, .int .i64 0, .int .i64 0, .int .i64 0, .int .i64 0, .slice none 0 0], .int .i64 3]) (by simp [results, Try.results48, asAddr, l4]) rfl (HF.out _ (H.subm _))
set_option maxRecDepth 100000 in
set_option maxHeartbeats 8000000 in
theorem import_few {w0 w : World} {I : List It} (be bf bd br : Int) (es l : List Ev) (A B : Option Addr) (n c p d m k N : Nat) (hl : es.length = n) (hlp : l.length = p) (hb : (⟨4, be, bf, bd, br, es⟩ : BM).Ok m) (hm : m ≤ 150) (hp : p ≤ 150) (hc : n ≤ c) (hd : p ≤ d) (hk : k ≤ n) (hN : min (n - k) p = N) (hx : (es.drop k).take N = (l.drop 0).take N) (hf : k + p < n) (H : St w0 w I) [h : Has I (evIt A es)] [h2 : Has I (evIt B l)] :
    Calls Try.prog 48 #[.agg (bArr ⟨4, be, bf, bd, br, es⟩ A n c), .int .i64 be, .int .i64 k, .slice B p d, .bool true] w (BPost w0 I (⟨0, 0, 0, 0, 0, []⟩, 3)) := by
  have hn : n ≤ 150 := by have := hb.len; have : n ≤ m := hl ▸ this; omega
  have HI := Lib.hid h
  have HI2 := Lib.hid h2
  have HB := Lib.hid hb
  have HL := Lib.hid hl
  have HLP := Lib.hid hlp
  clear h h2 hb hl hlp
  unfold bArr
  dsimp only
  have d0 : ¬ (k : Int) < 0 := by omega
  have d1 := decide_eq_false d0
  have d3 : ¬ (n : Int) < (k : Int) := by omega
  have d2 := decide_eq_false d3
  have w1 : IntKind.i64.wrap ((n : Int) - (k : Int)) = (n : Int) - (k : Int) := IntWalk.i64_in _ (by omega)
  have hmin : min ((n : Int) - (k : Int)) (p : Int) = (N : Int) := by omega
  have w2 : IntKind.i64.wrap ((k : Int) + (N : Int)) = (k : Int) + (N : Int) := IntWalk.i64_in _ (by omega)
  have w3 : IntKind.i64.wrap ((k : Int) + (p : Int)) = (k : Int) + (p : Int) := IntWalk.i64_in _ (by omega)
  have n1 : k + N ≤ n := by omega
  have n2 : N ≤ p := by omega
  have HN1 := Lib.hid (show ((es.drop k).take N).length = N by simp; have := HL.out; omega)
  have HN2 := Lib.hid (show ((l.drop 0).take N).length = N by simp; have := HLP.out; omega)
  have HTK := Lib.hid (show ((l.drop N).take (p - N)) = l.drop N from List.take_of_length_le (by simp; have := HLP.out; omega))
  have HDR := Lib.hid (show (l.drop N).length = p - N by simp; have := HLP.out; omega)
  obtain ⟨Q, hQ⟩ : ∃ Q, n + (p - N) = Q := ⟨_, rfl⟩
  have HLQ := Lib.hid (show (es ++ l.drop N).length = Q by rw [List.length_append, HL.out, HDR.out]; exact hQ)
  have HQ := Lib.hid hQ
  have hf1 : (k : Int) + (p : Int) < (n : Int) := by omega
  have hf2 := decide_eq_true hf1
  have HF := Lib.hid (fun W (h2 : St w0 W I) => (BPost.mk (r := (⟨0, 0, 0, 0, 0, []⟩, 3)) (n := 0) (c := 0) (A := none) rfl (Nat.le_refl _) (h2.old (s := 6) (n := 0) (A := none) (xs := []) Reads.none_) : BPost w0 I (⟨0, 0, 0, 0, 0, []⟩, 3) (.returned (.tuple #[.agg #[.int .i64 0, .int .i64 0, .int .i64 0, .int .i64 0, .int .i64 0, .slice none 0 0], .int .i64 3])) W))
  generalize BPost w0 I (⟨0, 0, 0, 0, 0, []⟩, 3) = POST at *
  go_enter Try.func48, Try.ntmps48
  go_upto_region 11 with (first | (go_at_call 41; have h := HI.out; refine (check_st ⟨4, be, bf, bd, br, es⟩ A n c m HL.out HB.out hm hc H).mono ?_; clear H h; rintro ed wy ⟨rfl, H⟩) | (first | ((with_reducible refine here_load ?_); first | refine ldR H rfl _ _ rfl rfl (by kernel_rfl) ?_ | refine ldS H rfl _ _ rfl rfl (by rfl) ?_ | refine ldSG H (by rfl) _ _ rfl rfl (by rfl) ?_ | refine ldRG H (by rfl) _ _ rfl rfl (by kernel_rfl) ?_) | ((with_reducible refine here_store ?_); first | (refine stR H rfl _ _ _ rfl rfl rfl (by rfl) (by rfl) (by kernel_rfl) ?_; clear H; intro wx H) | (refine stS H rfl _ _ _ rfl rfl _ rfl (by rfl) (by rfl) (by rfl) ?_; clear H; intro wx H)) | ((with_reducible refine here_alloc ?_); first | (refine wpList_alloc_st H rfl 37 rfl _ q_zero ?_; clear H; intro gq wx H) | (refine wpList_alloc_st H rfl 48 rfl _ ans_zero ?_; clear H; intro ga wx H) | (refine wpList_alloc_st H rfl 44 rfl _ ev_zero ?_; clear H; intro ge wx H) | (refine wpList_alloc_st H rfl 58 rfl _ ber_zero ?_; clear H; intro gr wx H)) | ((with_reducible refine here_box ?_); refine wpList_box_st H rfl _ _ rfl _ rfl ?_; clear H; intro gb wx H)))
  (try simp only [Act.put])
  
  refine startS (H.subm (.bl gb 58 #[.int .i64 4, .int .i64 be, .int .i64 bf, .int .i64 bd, .int .i64 br, .slice A n c] :: I)) (by kernel_rfl) (fun HS => ?_)
  replace H := H.drew
  refine takeV (i := 0) (v := ?_) rfl (by kernel_rfl) (by kernel_rfl) (by kernel_rfl) (fun _ _ _ h => h) (by rfl) ?_ HS ?_
  rotate_left
  · (intro W hW; go_simp; try with_reducible rfl)
  (try simp only [Act.put, List.setIfInBounds_toArray, List.set_cons_zero, List.set_cons_succ])
  refine take1_st (i := 1) 23 _ rfl rfl rfl sc_Evs _ (by rfl) (by kernel_rfl) (by kernel_rfl) (by kernel_rfl) (fun _ _ _ _ h => h) (by rfl) HS ?_
  (try simp only [Act.put, List.setIfInBounds_toArray, List.set_cons_zero, List.set_cons_succ])
  refine takeMove (i := 2) rfl rfl _ (by rfl) (by kernel_rfl) (by kernel_rfl) (by kernel_rfl) (fun _ _ _ _ h => h) (by rfl) HS ?_
  (try simp only [Act.put, List.setIfInBounds_toArray, List.set_cons_zero, List.set_cons_succ])
  refine takeMove (i := 3) rfl rfl _ (by rfl) (by kernel_rfl) (by kernel_rfl) (by kernel_rfl) (fun _ _ _ _ h => h) (by rfl) HS ?_
  (try simp only [Act.put, List.setIfInBounds_toArray, List.set_cons_zero, List.set_cons_succ])
  refine takeMove (i := 4) rfl rfl _ (by rfl) (by kernel_rfl) (by kernel_rfl) (by kernel_rfl) (fun _ _ _ _ h => h) (by rfl) HS ?_
  (try simp only [Act.put, List.setIfInBounds_toArray, List.set_cons_zero, List.set_cons_succ])
  refine takeV (i := 5) (v := ?_) rfl (by kernel_rfl) (by kernel_rfl) (by kernel_rfl) (fun _ _ _ h => h) (by rfl) ?_ HS ?_
  rotate_left
  · (intro W hW; go_simp; try with_reducible rfl)
  (try simp only [Act.put, List.setIfInBounds_toArray, List.set_cons_zero, List.set_cons_succ])
  refine takeMove (i := 6) rfl rfl _ (by rfl) (by kernel_rfl) (by kernel_rfl) (by kernel_rfl) (fun _ _ _ _ h => h) (by rfl) HS ?_
  (try simp only [Act.put, List.setIfInBounds_toArray, List.set_cons_zero, List.set_cons_succ])
  refine takeMove (i := 7) rfl rfl _ (by rfl) (by kernel_rfl) (by kernel_rfl) (by kernel_rfl) (fun _ _ _ _ h => h) (by rfl) HS ?_
  (try simp only [Act.put, List.setIfInBounds_toArray, List.set_cons_zero, List.set_cons_succ])
  refine takeV (i := 8) (v := ?_) rfl (by kernel_rfl) (by kernel_rfl) (by kernel_rfl) (fun _ _ _ h => h) (by rfl) ?_ HS ?_
  rotate_left
  · (intro W hW; go_simp; try with_reducible rfl)
  (try simp only [Act.put, List.setIfInBounds_toArray, List.set_cons_zero, List.set_cons_succ])
  refine takeSlice (i := 9) rfl rfl Try.underlying23 (s := 6) (by kernel_rfl) rfl (k) (k + N) (k + N) (.inl ⟨_, rfl, by omega⟩) (.inl ⟨_, rfl, by omega⟩) (.inl ⟨_, rfl, by omega⟩) (fun h => by cases h) (by omega) (by omega) (by omega) (N) (N) (by omega) (by omega) (by kernel_rfl) (by kernel_rfl) (by kernel_rfl) (fun _ _ _ _ h => h) (by rfl) HS ?_
  (try simp only [Act.put, List.setIfInBounds_toArray, List.set_cons_zero, List.set_cons_succ])
  refine takeMove (i := 10) rfl rfl _ (by rfl) (by kernel_rfl) (by kernel_rfl) (by kernel_rfl) (fun _ _ _ _ h => h) (by rfl) HS ?_
  (try simp only [Act.put, List.setIfInBounds_toArray, List.set_cons_zero, List.set_cons_succ])
  refine takeMove (i := 11) rfl rfl _ (by rfl) (by kernel_rfl) (by kernel_rfl) (by kernel_rfl) (fun _ _ _ _ h => h) (by rfl) HS ?_
  (try simp only [Act.put, List.setIfInBounds_toArray, List.set_cons_zero, List.set_cons_succ])
  refine takeMove (i := 12) rfl rfl _ (by rfl) (by kernel_rfl) (by kernel_rfl) (by kernel_rfl) (fun _ _ _ _ h => h) (by rfl) HS ?_
  (try simp only [Act.put, List.setIfInBounds_toArray, List.set_cons_zero, List.set_cons_succ])
  refine takeSlice (i := 13) rfl rfl Try.underlying23 (s := 6) (by kernel_rfl) rfl (0) (N) (N) (.inr ⟨rfl, rfl⟩) (.inl ⟨_, rfl, by omega⟩) (.inl ⟨_, rfl, by omega⟩) (fun h => by cases h) (by omega) (by omega) (by omega) (N) (N) (by omega) (by omega) (by kernel_rfl) (by kernel_rfl) (by kernel_rfl) (fun _ _ _ _ h => h) (by rfl) HS ?_
  (try simp only [Act.put, List.setIfInBounds_toArray, List.set_cons_zero, List.set_cons_succ])
  refine branchH [14] (by kernel_rfl) (by kernel_rfl) (AllStep.cons ?_ AllStep.nil)
  refine stepH_do (i := 14) rfl (by rfl) ?_
  have h := HI.out
  have h2 := HI2.out
  replace H := (H.subEv (A := A) (es := es) k N (k + N) (by rw [HL.out]; omega) (by omega)).subEv (A := B) (es := l) 0 N N (by rw [HLP.out]; omega) (by omega)
  refine wp_call_st rfl Try.func64 (by kernel_rfl) (by kernel_rfl) _ ?_ ((eqEv_st ((es.drop k).take N) ((l.drop 0).take N) (subA A k (k + N) 6) (subA B 0 N 6) N N N HN1.out HN2.out H (by omega) (Nat.le_refl _) (Nat.le_refl _)).mono ?_)
  · rfl
  clear H h h2
  rintro ed wy ⟨v, rfl, hv, H⟩
  obtain rfl : v = true := hv.2 hx
  clear hv hx
  replace HS := HS.of H
  refine ⟨_, rfl, HS, ?_⟩
  (try simp only [Act.put, List.setIfInBounds_toArray, List.set_cons_zero, List.set_cons_succ])
  refine takeV (i := 15) (v := ?_) rfl (by kernel_rfl) (by kernel_rfl) (by kernel_rfl) (fun _ _ _ h => h) (by rfl) ?_ HS ?_
  rotate_left
  · (intro W hW; go_simp; try with_reducible rfl)
  (try simp only [Act.put, List.setIfInBounds_toArray, List.set_cons_zero, List.set_cons_succ])
  refine doneH (by kernel_rfl) ?_
  go_upto_region 13 with (first | ((with_reducible refine here_load ?_); first | refine ldR H rfl _ _ rfl rfl (by kernel_rfl) ?_ | refine ldS H rfl _ _ rfl rfl (by rfl) ?_ | refine ldSG H (by rfl) _ _ rfl rfl (by rfl) ?_ | refine ldRG H (by rfl) _ _ rfl rfl (by kernel_rfl) ?_) | ((with_reducible refine here_store ?_); first | (refine stR H rfl _ _ _ rfl rfl rfl (by rfl) (by rfl) (by kernel_rfl) ?_; clear H; intro wx H) | (refine stS H rfl _ _ _ rfl rfl _ rfl (by rfl) (by rfl) (by rfl) ?_; clear H; intro wx H)) | ((with_reducible refine here_alloc ?_); first | (refine wpList_alloc_st H rfl 37 rfl _ q_zero ?_; clear H; intro gq2 wx H) | (refine wpList_alloc_st H rfl 48 rfl _ ans_zero ?_; clear H; intro ga2 wx H) | (refine wpList_alloc_st H rfl 44 rfl _ ev_zero ?_; clear H; intro ge2 wx H) | (refine wpList_alloc_st H rfl 58 rfl _ ber_zero ?_; clear H; intro gr2 wx H)) | ((with_reducible refine here_box ?_); refine wpList_box_st H rfl _ _ rfl _ rfl ?_; clear H; intro gb2 wx H))
  (try simp only [Act.put])
  
  refine startS (H.subm (.bl gb 58 #[.int .i64 4, .int .i64 be, .int .i64 bf, .int .i64 bd, .int .i64 br, .slice A n c] :: I)) (by kernel_rfl) (fun HS => ?_)
  replace H := H.drew
  refine takeRow_st (i := 0) 58 _ rfl rfl rfl row_Berth (by kernel_rfl) (by kernel_rfl) (by kernel_rfl) (by kernel_rfl) (fun _ _ _ _ h => h) (by rfl) HS ?_
  (try simp only [Act.put, List.setIfInBounds_toArray, List.set_cons_zero, List.set_cons_succ])
  refine takeMove (i := 1) rfl rfl _ (by rfl) (by kernel_rfl) (by kernel_rfl) (by kernel_rfl) (fun _ _ _ _ h => h) (by rfl) HS ?_
  (try simp only [Act.put, List.setIfInBounds_toArray, List.set_cons_zero, List.set_cons_succ])
  refine takeMove (i := 2) rfl rfl _ (by rfl) (by kernel_rfl) (by kernel_rfl) (by kernel_rfl) (fun _ _ _ _ h => h) (by rfl) HS ?_
  (try simp only [Act.put, List.setIfInBounds_toArray, List.set_cons_zero, List.set_cons_succ])
  refine takeSlice (i := 3) rfl rfl Try.underlying23 (s := 6) (by kernel_rfl) rfl (N) (p) (d) (.inl ⟨_, rfl, by omega⟩) (.inr ⟨rfl, rfl⟩) (.inr ⟨rfl, rfl⟩) (fun _ => rfl) (by omega) (by omega) (by omega) (p - N) (d - N) (by omega) (by omega) (by kernel_rfl) (by kernel_rfl) (by kernel_rfl) (fun _ _ _ _ h => h) (by rfl) HS ?_
  (try simp only [Act.put, List.setIfInBounds_toArray, List.set_cons_zero, List.set_cons_succ])
  refine branchH [4, 5] (by kernel_rfl) (by kernel_rfl) (AllStep.cons ?_ (AllStep.cons ?_ AllStep.nil))
  · refine stepH_do (i := 4) rfl (by rfl) ?_
    have h := HI.out
    have h2 := HI2.out
    replace H := H.subEv (A := B) (es := l) N (p - N) d (by rw [HLP.out]; omega) (by omega)
    rw [HTK.out] at H
    refine wp_call_st rfl Try.func45 (by kernel_rfl) (by kernel_rfl) _ ?_ ((with_st ⟨4, be, bf, bd, br, es⟩ (l.drop N) A (subA B N d 6) n c (p - N) (d - N) HL.out HDR.out hn (by omega) hc H).mono ?_)
    · rfl
    clear H h h2
    rintro ed wy ⟨A9, c9, rfl, hc9, H⟩
    rw [HQ.out] at hc9 ⊢
    replace HS := HS.of H
    refine ⟨_, rfl, HS, ?_⟩
    (try simp only [Act.put, List.setIfInBounds_toArray, List.set_cons_zero, List.set_cons_succ])
    refine branchH [5] (by kernel_rfl) (by kernel_rfl) (AllStep.cons ?_ AllStep.nil)
    refine stepH_do (i := 5) rfl (by rfl) ?_
    refine wp_alloc_st H 58 rfl _ ber_zero ?_
    clear H
    intro gro wx H
    replace HS := HS.of H
    refine ⟨HS, ?_⟩
    (try simp only [Act.put, List.setIfInBounds_toArray, List.set_cons_zero, List.set_cons_succ])
    refine branchH [6] (by kernel_rfl) (by kernel_rfl) (AllStep.cons ?_ AllStep.nil)
    refine stepH_do (i := 6) rfl (by rfl) ?_
    refine wp_store_st H 58 _ _ rfl rfl rfl (by kernel_rfl) (by rfl) (by kernel_rfl) ?_
    clear H
    intro wx H
    replace HS := HS.of H
    refine ⟨HS, ?_⟩
    (try simp only [Act.put])
    refine doneH (by kernel_rfl) ?_
    go_wp2_with (first | ((with_reducible refine here_load ?_); first | refine ldR H rfl _ _ rfl rfl (by kernel_rfl) ?_ | refine ldS H rfl _ _ rfl rfl (by rfl) ?_ | refine ldSG H (by rfl) _ _ rfl rfl (by rfl) ?_ | refine ldRG H (by rfl) _ _ rfl rfl (by kernel_rfl) ?_) | ((with_reducible refine here_store ?_); first | (refine stR H rfl _ _ _ rfl rfl rfl (by rfl) (by rfl) (by kernel_rfl) ?_; clear H; intro wx H) | (refine stS H rfl _ _ _ rfl rfl _ rfl (by rfl) (by rfl) (by rfl) ?_; clear H; intro wx H)) | ((with_reducible refine here_alloc ?_); first | (refine wpList_alloc_st H rfl 37 rfl _ q_zero ?_; clear H; intro gq3 wx H) | (refine wpList_alloc_st H rfl 48 rfl _ ans_zero ?_; clear H; intro ga3 wx H) | (refine wpList_alloc_st H rfl 44 rfl _ ev_zero ?_; clear H; intro ge3 wx H) | (refine wpList_alloc_st H rfl 58 rfl _ ber_zero ?_; clear H; intro gr3 wx H)) | ((with_reducible refine here_box ?_); refine wpList_box_st H rfl _ _ rfl _ rfl ?_; clear H; intro gb3 wx H))
    have l4 : (loadVar 58 ⟨gr, 0, none⟩).run Try.prog wx = .ok (.agg #[.int .i64 0, .int .i64 0, .int .i64 0, .int .i64 0, .int .i64 0, .slice none 0 0]) wx := H.loadRow 58 gr row_Berth (P := Try.prog) (by kernel_rfl)
    exact bodyPost_ret (v := .tuple #[.agg #[.int .i64 0, .int .i64 0, .int .i64 0, .int .i64 0, .int .i64 0, .slice none 0 0], .int .i64 3]) (by simp [results, Try.results48, asAddr, l4]) rfl (HF.out _ (H.subm _))
  · refine stepH_do (i := 5) rfl (by rfl) ?_
    refine wp_alloc_st H 58 rfl _ ber_zero ?_
    clear H
    intro gro wx H
    replace HS := HS.of H
    refine ⟨HS, ?_⟩
    (try simp only [Act.put, List.setIfInBounds_toArray, List.set_cons_zero, List.set_cons_succ])
    refine branchH [4] (by kernel_rfl) (by kernel_rfl) (AllStep.cons ?_ AllStep.nil)
    refine stepH_do (i := 4) rfl (by rfl) ?_
    have h := HI.out
    have h2 := HI2.out
    replace H := H.subEv (A := B) (es := l) N (p - N) d (by rw [HLP.out]; omega) (by omega)
    rw [HTK.out] at H
    refine wp_call_st rfl Try.func45 (by kernel_rfl) (by kernel_rfl) _ ?_ ((with_st ⟨4, be, bf, bd, br, es⟩ (l.drop N) A (subA B N d 6) n c (p - N) (d - N) HL.out HDR.out hn (by omega) hc H).mono ?_)
    · rfl
    clear H h h2
    rintro ed wy ⟨A9, c9, rfl, hc9, H⟩
    rw [HQ.out] at hc9 ⊢
    replace HS := HS.of H
    refine ⟨_, rfl, HS, ?_⟩
    (try simp only [Act.put, List.setIfInBounds_toArray, List.set_cons_zero, List.set_cons_succ])
    refine branchH [6] (by kernel_rfl) (by kernel_rfl) (AllStep.cons ?_ AllStep.nil)
    refine stepH_do (i := 6) rfl (by rfl) ?_
    refine wp_store_st H 58 _ _ rfl rfl rfl (by kernel_rfl) (by rfl) (by kernel_rfl) ?_
    clear H
    intro wx H
    replace HS := HS.of H
    refine ⟨HS, ?_⟩
    (try simp only [Act.put])
    refine doneH (by kernel_rfl) ?_
    go_wp2_with (first | ((with_reducible refine here_load ?_); first | refine ldR H rfl _ _ rfl rfl (by kernel_rfl) ?_ | refine ldS H rfl _ _ rfl rfl (by rfl) ?_ | refine ldSG H (by rfl) _ _ rfl rfl (by rfl) ?_ | refine ldRG H (by rfl) _ _ rfl rfl (by kernel_rfl) ?_) | ((with_reducible refine here_store ?_); first | (refine stR H rfl _ _ _ rfl rfl rfl (by rfl) (by rfl) (by kernel_rfl) ?_; clear H; intro wx H) | (refine stS H rfl _ _ _ rfl rfl _ rfl (by rfl) (by rfl) (by rfl) ?_; clear H; intro wx H)) | ((with_reducible refine here_alloc ?_); first | (refine wpList_alloc_st H rfl 37 rfl _ q_zero ?_; clear H; intro gq3 wx H) | (refine wpList_alloc_st H rfl 48 rfl _ ans_zero ?_; clear H; intro ga3 wx H) | (refine wpList_alloc_st H rfl 44 rfl _ ev_zero ?_; clear H; intro ge3 wx H) | (refine wpList_alloc_st H rfl 58 rfl _ ber_zero ?_; clear H; intro gr3 wx H)) | ((with_reducible refine here_box ?_); refine wpList_box_st H rfl _ _ rfl _ rfl ?_; clear H; intro gb3 wx H))
    have l4 : (loadVar 58 ⟨gr, 0, none⟩).run Try.prog wx = .ok (.agg #[.int .i64 0, .int .i64 0, .int .i64 0, .int .i64 0, .int .i64 0, .slice none 0 0]) wx := H.loadRow 58 gr row_Berth (P := Try.prog) (by kernel_rfl)
    exact bodyPost_ret (v := .tuple #[.agg #[.int .i64 0, .int .i64 0, .int .i64 0, .int .i64 0, .int .i64 0, .slice none 0 0], .int .i64 3]) (by simp [results, Try.results48, asAddr, l4]) rfl (HF.out _ (H.subm _))
set_option maxRecDepth 100000 in
set_option maxHeartbeats 8000000 in
theorem import_on {w0 w : World} {I : List It} (be bf bd br : Int) (es l : List Ev) (A B : Option Addr) (n c p d m k N M : Nat) (hl : es.length = n) (hlp : l.length = p) (hb : (⟨4, be, bf, bd, br, es⟩ : BM).Ok m) (hm : m ≤ 150) (hp : p ≤ 150) (hc : n ≤ c) (hd : p ≤ d) (hk : k ≤ n) (hN : min (n - k) p = N) (hx : (es.drop k).take N = (l.drop 0).take N) (hbn : (⟨4, be, bf, bd, br, es ++ l.drop N⟩ : BM).Ok M) (hM : M ≤ 150) (H : St w0 w I) [h : Has I (evIt A es)] [h2 : Has I (evIt B l)] :
    Calls Try.prog 48 #[.agg (bArr ⟨4, be, bf, bd, br, es⟩ A n c), .int .i64 be, .int .i64 k, .slice B p d, .bool false] w (BPost w0 I (⟨4, be, bf, bd, br, es ++ l.drop N⟩, 0)) := by
  have hn : n ≤ 150 := by have := hb.len; have : n ≤ m := hl ▸ this; omega
  have HI := Lib.hid h
  have HI2 := Lib.hid h2
  have HB := Lib.hid hb
  have HL := Lib.hid hl
  have HLP := Lib.hid hlp
  clear h h2 hb hl hlp
  unfold bArr
  dsimp only
  have d0 : ¬ (k : Int) < 0 := by omega
  have d1 := decide_eq_false d0
  have d3 : ¬ (n : Int) < (k : Int) := by omega
  have d2 := decide_eq_false d3
  have w1 : IntKind.i64.wrap ((n : Int) - (k : Int)) = (n : Int) - (k : Int) := IntWalk.i64_in _ (by omega)
  have hmin : min ((n : Int) - (k : Int)) (p : Int) = (N : Int) := by omega
  have w2 : IntKind.i64.wrap ((k : Int) + (N : Int)) = (k : Int) + (N : Int) := IntWalk.i64_in _ (by omega)
  have w3 : IntKind.i64.wrap ((k : Int) + (p : Int)) = (k : Int) + (p : Int) := IntWalk.i64_in _ (by omega)
  have n1 : k + N ≤ n := by omega
  have n2 : N ≤ p := by omega
  have HN1 := Lib.hid (show ((es.drop k).take N).length = N by simp; have := HL.out; omega)
  have HN2 := Lib.hid (show ((l.drop 0).take N).length = N by simp; have := HLP.out; omega)
  have HTK := Lib.hid (show ((l.drop N).take (p - N)) = l.drop N from List.take_of_length_le (by simp; have := HLP.out; omega))
  have HDR := Lib.hid (show (l.drop N).length = p - N by simp; have := HLP.out; omega)
  obtain ⟨Q, hQ⟩ : ∃ Q, n + (p - N) = Q := ⟨_, rfl⟩
  have HLQ := Lib.hid (show (es ++ l.drop N).length = Q by rw [List.length_append, HL.out, HDR.out]; exact hQ)
  have HQ := Lib.hid hQ
  have HBN := Lib.hid hbn
  have HF := Lib.hid (fun W A' c' (h1 : Q ≤ c') (h2 : St w0 W (evIt A' (es ++ l.drop N) :: I)) => (BPost.mk (r := (⟨4, be, bf, bd, br, es ++ l.drop N⟩, 0)) HLQ.out h1 h2 : BPost w0 I (⟨4, be, bf, bd, br, es ++ l.drop N⟩, 0) (.returned (.tuple #[.agg #[.int .i64 4, .int .i64 be, .int .i64 bf, .int .i64 bd, .int .i64 br, .slice A' Q c'], .int .i64 0])) W))
  generalize BPost w0 I (⟨4, be, bf, bd, br, es ++ l.drop N⟩, 0) = POST at *
  clear hbn hQ
  go_enter Try.func48, Try.ntmps48
  go_upto_region 11 with (first | (go_at_call 41; have h := HI.out; refine (check_st ⟨4, be, bf, bd, br, es⟩ A n c m HL.out HB.out hm hc H).mono ?_; clear H h; rintro ed wy ⟨rfl, H⟩) | (first | ((with_reducible refine here_load ?_); first | refine ldR H rfl _ _ rfl rfl (by kernel_rfl) ?_ | refine ldS H rfl _ _ rfl rfl (by rfl) ?_ | refine ldSG H (by rfl) _ _ rfl rfl (by rfl) ?_ | refine ldRG H (by rfl) _ _ rfl rfl (by kernel_rfl) ?_) | ((with_reducible refine here_store ?_); first | (refine stR H rfl _ _ _ rfl rfl rfl (by rfl) (by rfl) (by kernel_rfl) ?_; clear H; intro wx H) | (refine stS H rfl _ _ _ rfl rfl _ rfl (by rfl) (by rfl) (by rfl) ?_; clear H; intro wx H)) | ((with_reducible refine here_alloc ?_); first | (refine wpList_alloc_st H rfl 37 rfl _ q_zero ?_; clear H; intro gq wx H) | (refine wpList_alloc_st H rfl 48 rfl _ ans_zero ?_; clear H; intro ga wx H) | (refine wpList_alloc_st H rfl 44 rfl _ ev_zero ?_; clear H; intro ge wx H) | (refine wpList_alloc_st H rfl 58 rfl _ ber_zero ?_; clear H; intro gr wx H)) | ((with_reducible refine here_box ?_); refine wpList_box_st H rfl _ _ rfl _ rfl ?_; clear H; intro gb wx H)))
  (try simp only [Act.put])
  
  refine startS (H.subm (.bl gb 58 #[.int .i64 4, .int .i64 be, .int .i64 bf, .int .i64 bd, .int .i64 br, .slice A n c] :: I)) (by kernel_rfl) (fun HS => ?_)
  replace H := H.drew
  refine takeV (i := 0) (v := ?_) rfl (by kernel_rfl) (by kernel_rfl) (by kernel_rfl) (fun _ _ _ h => h) (by rfl) ?_ HS ?_
  rotate_left
  · (intro W hW; go_simp; try with_reducible rfl)
  (try simp only [Act.put, List.setIfInBounds_toArray, List.set_cons_zero, List.set_cons_succ])
  refine take1_st (i := 1) 23 _ rfl rfl rfl sc_Evs _ (by rfl) (by kernel_rfl) (by kernel_rfl) (by kernel_rfl) (fun _ _ _ _ h => h) (by rfl) HS ?_
  (try simp only [Act.put, List.setIfInBounds_toArray, List.set_cons_zero, List.set_cons_succ])
  refine takeMove (i := 2) rfl rfl _ (by rfl) (by kernel_rfl) (by kernel_rfl) (by kernel_rfl) (fun _ _ _ _ h => h) (by rfl) HS ?_
  (try simp only [Act.put, List.setIfInBounds_toArray, List.set_cons_zero, List.set_cons_succ])
  refine takeMove (i := 3) rfl rfl _ (by rfl) (by kernel_rfl) (by kernel_rfl) (by kernel_rfl) (fun _ _ _ _ h => h) (by rfl) HS ?_
  (try simp only [Act.put, List.setIfInBounds_toArray, List.set_cons_zero, List.set_cons_succ])
  refine takeMove (i := 4) rfl rfl _ (by rfl) (by kernel_rfl) (by kernel_rfl) (by kernel_rfl) (fun _ _ _ _ h => h) (by rfl) HS ?_
  (try simp only [Act.put, List.setIfInBounds_toArray, List.set_cons_zero, List.set_cons_succ])
  refine takeV (i := 5) (v := ?_) rfl (by kernel_rfl) (by kernel_rfl) (by kernel_rfl) (fun _ _ _ h => h) (by rfl) ?_ HS ?_
  rotate_left
  · (intro W hW; go_simp; try with_reducible rfl)
  (try simp only [Act.put, List.setIfInBounds_toArray, List.set_cons_zero, List.set_cons_succ])
  refine takeMove (i := 6) rfl rfl _ (by rfl) (by kernel_rfl) (by kernel_rfl) (by kernel_rfl) (fun _ _ _ _ h => h) (by rfl) HS ?_
  (try simp only [Act.put, List.setIfInBounds_toArray, List.set_cons_zero, List.set_cons_succ])
  refine takeMove (i := 7) rfl rfl _ (by rfl) (by kernel_rfl) (by kernel_rfl) (by kernel_rfl) (fun _ _ _ _ h => h) (by rfl) HS ?_
  (try simp only [Act.put, List.setIfInBounds_toArray, List.set_cons_zero, List.set_cons_succ])
  refine takeV (i := 8) (v := ?_) rfl (by kernel_rfl) (by kernel_rfl) (by kernel_rfl) (fun _ _ _ h => h) (by rfl) ?_ HS ?_
  rotate_left
  · (intro W hW; go_simp; try with_reducible rfl)
  (try simp only [Act.put, List.setIfInBounds_toArray, List.set_cons_zero, List.set_cons_succ])
  refine takeSlice (i := 9) rfl rfl Try.underlying23 (s := 6) (by kernel_rfl) rfl (k) (k + N) (k + N) (.inl ⟨_, rfl, by omega⟩) (.inl ⟨_, rfl, by omega⟩) (.inl ⟨_, rfl, by omega⟩) (fun h => by cases h) (by omega) (by omega) (by omega) (N) (N) (by omega) (by omega) (by kernel_rfl) (by kernel_rfl) (by kernel_rfl) (fun _ _ _ _ h => h) (by rfl) HS ?_
  (try simp only [Act.put, List.setIfInBounds_toArray, List.set_cons_zero, List.set_cons_succ])
  refine takeMove (i := 10) rfl rfl _ (by rfl) (by kernel_rfl) (by kernel_rfl) (by kernel_rfl) (fun _ _ _ _ h => h) (by rfl) HS ?_
  (try simp only [Act.put, List.setIfInBounds_toArray, List.set_cons_zero, List.set_cons_succ])
  refine takeMove (i := 11) rfl rfl _ (by rfl) (by kernel_rfl) (by kernel_rfl) (by kernel_rfl) (fun _ _ _ _ h => h) (by rfl) HS ?_
  (try simp only [Act.put, List.setIfInBounds_toArray, List.set_cons_zero, List.set_cons_succ])
  refine takeMove (i := 12) rfl rfl _ (by rfl) (by kernel_rfl) (by kernel_rfl) (by kernel_rfl) (fun _ _ _ _ h => h) (by rfl) HS ?_
  (try simp only [Act.put, List.setIfInBounds_toArray, List.set_cons_zero, List.set_cons_succ])
  refine takeSlice (i := 13) rfl rfl Try.underlying23 (s := 6) (by kernel_rfl) rfl (0) (N) (N) (.inr ⟨rfl, rfl⟩) (.inl ⟨_, rfl, by omega⟩) (.inl ⟨_, rfl, by omega⟩) (fun h => by cases h) (by omega) (by omega) (by omega) (N) (N) (by omega) (by omega) (by kernel_rfl) (by kernel_rfl) (by kernel_rfl) (fun _ _ _ _ h => h) (by rfl) HS ?_
  (try simp only [Act.put, List.setIfInBounds_toArray, List.set_cons_zero, List.set_cons_succ])
  refine branchH [14] (by kernel_rfl) (by kernel_rfl) (AllStep.cons ?_ AllStep.nil)
  refine stepH_do (i := 14) rfl (by rfl) ?_
  have h := HI.out
  have h2 := HI2.out
  replace H := (H.subEv (A := A) (es := es) k N (k + N) (by rw [HL.out]; omega) (by omega)).subEv (A := B) (es := l) 0 N N (by rw [HLP.out]; omega) (by omega)
  refine wp_call_st rfl Try.func64 (by kernel_rfl) (by kernel_rfl) _ ?_ ((eqEv_st ((es.drop k).take N) ((l.drop 0).take N) (subA A k (k + N) 6) (subA B 0 N 6) N N N HN1.out HN2.out H (by omega) (Nat.le_refl _) (Nat.le_refl _)).mono ?_)
  · rfl
  clear H h h2
  rintro ed wy ⟨v, rfl, hv, H⟩
  obtain rfl : v = true := hv.2 hx
  clear hv hx
  replace HS := HS.of H
  refine ⟨_, rfl, HS, ?_⟩
  (try simp only [Act.put, List.setIfInBounds_toArray, List.set_cons_zero, List.set_cons_succ])
  refine takeV (i := 15) (v := ?_) rfl (by kernel_rfl) (by kernel_rfl) (by kernel_rfl) (fun _ _ _ h => h) (by rfl) ?_ HS ?_
  rotate_left
  · (intro W hW; go_simp; try with_reducible rfl)
  (try simp only [Act.put, List.setIfInBounds_toArray, List.set_cons_zero, List.set_cons_succ])
  refine doneH (by kernel_rfl) ?_
  go_upto_region 13 with (first | ((with_reducible refine here_load ?_); first | refine ldR H rfl _ _ rfl rfl (by kernel_rfl) ?_ | refine ldS H rfl _ _ rfl rfl (by rfl) ?_ | refine ldSG H (by rfl) _ _ rfl rfl (by rfl) ?_ | refine ldRG H (by rfl) _ _ rfl rfl (by kernel_rfl) ?_) | ((with_reducible refine here_store ?_); first | (refine stR H rfl _ _ _ rfl rfl rfl (by rfl) (by rfl) (by kernel_rfl) ?_; clear H; intro wx H) | (refine stS H rfl _ _ _ rfl rfl _ rfl (by rfl) (by rfl) (by rfl) ?_; clear H; intro wx H)) | ((with_reducible refine here_alloc ?_); first | (refine wpList_alloc_st H rfl 37 rfl _ q_zero ?_; clear H; intro gq2 wx H) | (refine wpList_alloc_st H rfl 48 rfl _ ans_zero ?_; clear H; intro ga2 wx H) | (refine wpList_alloc_st H rfl 44 rfl _ ev_zero ?_; clear H; intro ge2 wx H) | (refine wpList_alloc_st H rfl 58 rfl _ ber_zero ?_; clear H; intro gr2 wx H)) | ((with_reducible refine here_box ?_); refine wpList_box_st H rfl _ _ rfl _ rfl ?_; clear H; intro gb2 wx H))
  (try simp only [Act.put])
  
  refine startS (H.subm (.bl gb 58 #[.int .i64 4, .int .i64 be, .int .i64 bf, .int .i64 bd, .int .i64 br, .slice A n c] :: I)) (by kernel_rfl) (fun HS => ?_)
  replace H := H.drew
  refine takeRow_st (i := 0) 58 _ rfl rfl rfl row_Berth (by kernel_rfl) (by kernel_rfl) (by kernel_rfl) (by kernel_rfl) (fun _ _ _ _ h => h) (by rfl) HS ?_
  (try simp only [Act.put, List.setIfInBounds_toArray, List.set_cons_zero, List.set_cons_succ])
  refine takeMove (i := 1) rfl rfl _ (by rfl) (by kernel_rfl) (by kernel_rfl) (by kernel_rfl) (fun _ _ _ _ h => h) (by rfl) HS ?_
  (try simp only [Act.put, List.setIfInBounds_toArray, List.set_cons_zero, List.set_cons_succ])
  refine takeMove (i := 2) rfl rfl _ (by rfl) (by kernel_rfl) (by kernel_rfl) (by kernel_rfl) (fun _ _ _ _ h => h) (by rfl) HS ?_
  (try simp only [Act.put, List.setIfInBounds_toArray, List.set_cons_zero, List.set_cons_succ])
  refine takeSlice (i := 3) rfl rfl Try.underlying23 (s := 6) (by kernel_rfl) rfl (N) (p) (d) (.inl ⟨_, rfl, by omega⟩) (.inr ⟨rfl, rfl⟩) (.inr ⟨rfl, rfl⟩) (fun _ => rfl) (by omega) (by omega) (by omega) (p - N) (d - N) (by omega) (by omega) (by kernel_rfl) (by kernel_rfl) (by kernel_rfl) (fun _ _ _ _ h => h) (by rfl) HS ?_
  (try simp only [Act.put, List.setIfInBounds_toArray, List.set_cons_zero, List.set_cons_succ])
  refine branchH [4, 5] (by kernel_rfl) (by kernel_rfl) (AllStep.cons ?_ (AllStep.cons ?_ AllStep.nil))
  · refine stepH_do (i := 4) rfl (by rfl) ?_
    have h := HI.out
    have h2 := HI2.out
    replace H := H.subEv (A := B) (es := l) N (p - N) d (by rw [HLP.out]; omega) (by omega)
    rw [HTK.out] at H
    refine wp_call_st rfl Try.func45 (by kernel_rfl) (by kernel_rfl) _ ?_ ((with_st ⟨4, be, bf, bd, br, es⟩ (l.drop N) A (subA B N d 6) n c (p - N) (d - N) HL.out HDR.out hn (by omega) hc H).mono ?_)
    · rfl
    clear H h h2
    rintro ed wy ⟨A9, c9, rfl, hc9, H⟩
    rw [HQ.out] at hc9 ⊢
    replace HS := HS.of H
    refine ⟨_, rfl, HS, ?_⟩
    (try simp only [Act.put, List.setIfInBounds_toArray, List.set_cons_zero, List.set_cons_succ])
    refine branchH [5] (by kernel_rfl) (by kernel_rfl) (AllStep.cons ?_ AllStep.nil)
    refine stepH_do (i := 5) rfl (by rfl) ?_
    refine wp_alloc_st H 58 rfl _ ber_zero ?_
    clear H
    intro gro wx H
    replace HS := HS.of H
    refine ⟨HS, ?_⟩
    (try simp only [Act.put, List.setIfInBounds_toArray, List.set_cons_zero, List.set_cons_succ])
    refine branchH [6] (by kernel_rfl) (by kernel_rfl) (AllStep.cons ?_ AllStep.nil)
    refine stepH_do (i := 6) rfl (by rfl) ?_
    refine wp_store_st H 58 _ _ rfl rfl rfl (by kernel_rfl) (by rfl) (by kernel_rfl) ?_
    clear H
    intro wx H
    replace HS := HS.of H
    refine ⟨HS, ?_⟩
    (try simp only [Act.put])
    refine doneH (by kernel_rfl) ?_
    go_wp2_with (first | (go_at_call 41; refine (check_st ⟨4, be, bf, bd, br, es ++ l.drop N⟩ A9 Q c9 M HLQ.out HBN.out hM hc9 H).mono ?_; clear H; rintro ed wy ⟨rfl, H⟩) | (first | ((with_reducible refine here_load ?_); first | refine ldR H rfl _ _ rfl rfl (by kernel_rfl) ?_ | refine ldS H rfl _ _ rfl rfl (by rfl) ?_ | refine ldSG H (by rfl) _ _ rfl rfl (by rfl) ?_ | refine ldRG H (by rfl) _ _ rfl rfl (by kernel_rfl) ?_) | ((with_reducible refine here_store ?_); first | (refine stR H rfl _ _ _ rfl rfl rfl (by rfl) (by rfl) (by kernel_rfl) ?_; clear H; intro wx H) | (refine stS H rfl _ _ _ rfl rfl _ rfl (by rfl) (by rfl) (by rfl) ?_; clear H; intro wx H)) | ((with_reducible refine here_alloc ?_); first | (refine wpList_alloc_st H rfl 37 rfl _ q_zero ?_; clear H; intro gq3 wx H) | (refine wpList_alloc_st H rfl 48 rfl _ ans_zero ?_; clear H; intro ga3 wx H) | (refine wpList_alloc_st H rfl 44 rfl _ ev_zero ?_; clear H; intro ge3 wx H) | (refine wpList_alloc_st H rfl 58 rfl _ ber_zero ?_; clear H; intro gr3 wx H)) | ((with_reducible refine here_box ?_); refine wpList_box_st H rfl _ _ rfl _ rfl ?_; clear H; intro gb3 wx H)))
    have l4 : (loadVar 58 ⟨gr, 0, none⟩).run Try.prog wx = .ok (.agg #[.int .i64 4, .int .i64 be, .int .i64 bf, .int .i64 bd, .int .i64 br, .slice A9 Q c9]) wx := H.loadRow 58 gr row_Berth (P := Try.prog) (by kernel_rfl)
    exact bodyPost_ret (v := .tuple #[.agg #[.int .i64 4, .int .i64 be, .int .i64 bf, .int .i64 bd, .int .i64 br, .slice A9 Q c9], .int .i64 0]) (by simp [results, Try.results48, asAddr, l4]) rfl (HF.out _ _ _ hc9 (H.subm _))
  · refine stepH_do (i := 5) rfl (by rfl) ?_
    refine wp_alloc_st H 58 rfl _ ber_zero ?_
    clear H
    intro gro wx H
    replace HS := HS.of H
    refine ⟨HS, ?_⟩
    (try simp only [Act.put, List.setIfInBounds_toArray, List.set_cons_zero, List.set_cons_succ])
    refine branchH [4] (by kernel_rfl) (by kernel_rfl) (AllStep.cons ?_ AllStep.nil)
    refine stepH_do (i := 4) rfl (by rfl) ?_
    have h := HI.out
    have h2 := HI2.out
    replace H := H.subEv (A := B) (es := l) N (p - N) d (by rw [HLP.out]; omega) (by omega)
    rw [HTK.out] at H
    refine wp_call_st rfl Try.func45 (by kernel_rfl) (by kernel_rfl) _ ?_ ((with_st ⟨4, be, bf, bd, br, es⟩ (l.drop N) A (subA B N d 6) n c (p - N) (d - N) HL.out HDR.out hn (by omega) hc H).mono ?_)
    · rfl
    clear H h h2
    rintro ed wy ⟨A9, c9, rfl, hc9, H⟩
    rw [HQ.out] at hc9 ⊢
    replace HS := HS.of H
    refine ⟨_, rfl, HS, ?_⟩
    (try simp only [Act.put, List.setIfInBounds_toArray, List.set_cons_zero, List.set_cons_succ])
    refine branchH [6] (by kernel_rfl) (by kernel_rfl) (AllStep.cons ?_ AllStep.nil)
    refine stepH_do (i := 6) rfl (by rfl) ?_
    refine wp_store_st H 58 _ _ rfl rfl rfl (by kernel_rfl) (by rfl) (by kernel_rfl) ?_
    clear H
    intro wx H
    replace HS := HS.of H
    refine ⟨HS, ?_⟩
    (try simp only [Act.put])
    refine doneH (by kernel_rfl) ?_
    go_wp2_with (first | (go_at_call 41; refine (check_st ⟨4, be, bf, bd, br, es ++ l.drop N⟩ A9 Q c9 M HLQ.out HBN.out hM hc9 H).mono ?_; clear H; rintro ed wy ⟨rfl, H⟩) | (first | ((with_reducible refine here_load ?_); first | refine ldR H rfl _ _ rfl rfl (by kernel_rfl) ?_ | refine ldS H rfl _ _ rfl rfl (by rfl) ?_ | refine ldSG H (by rfl) _ _ rfl rfl (by rfl) ?_ | refine ldRG H (by rfl) _ _ rfl rfl (by kernel_rfl) ?_) | ((with_reducible refine here_store ?_); first | (refine stR H rfl _ _ _ rfl rfl rfl (by rfl) (by rfl) (by kernel_rfl) ?_; clear H; intro wx H) | (refine stS H rfl _ _ _ rfl rfl _ rfl (by rfl) (by rfl) (by rfl) ?_; clear H; intro wx H)) | ((with_reducible refine here_alloc ?_); first | (refine wpList_alloc_st H rfl 37 rfl _ q_zero ?_; clear H; intro gq3 wx H) | (refine wpList_alloc_st H rfl 48 rfl _ ans_zero ?_; clear H; intro ga3 wx H) | (refine wpList_alloc_st H rfl 44 rfl _ ev_zero ?_; clear H; intro ge3 wx H) | (refine wpList_alloc_st H rfl 58 rfl _ ber_zero ?_; clear H; intro gr3 wx H)) | ((with_reducible refine here_box ?_); refine wpList_box_st H rfl _ _ rfl _ rfl ?_; clear H; intro gb3 wx H)))
    have l4 : (loadVar 58 ⟨gr, 0, none⟩).run Try.prog wx = .ok (.agg #[.int .i64 4, .int .i64 be, .int .i64 bf, .int .i64 bd, .int .i64 br, .slice A9 Q c9]) wx := H.loadRow 58 gr row_Berth (P := Try.prog) (by kernel_rfl)
    exact bodyPost_ret (v := .tuple #[.agg #[.int .i64 4, .int .i64 be, .int .i64 bf, .int .i64 bd, .int .i64 br, .slice A9 Q c9], .int .i64 0]) (by simp [results, Try.results48, asAddr, l4]) rfl (HF.out _ _ _ hc9 (H.subm _))
set_option maxRecDepth 100000 in
set_option maxHeartbeats 8000000 in
theorem import_last {w0 w : World} {I : List It} (be bf bd br : Int) (es l : List Ev) (A B : Option Addr) (n c p d m k N M : Nat) (hl : es.length = n) (hlp : l.length = p) (hb : (⟨4, be, bf, bd, br, es⟩ : BM).Ok m) (hm : m ≤ 150) (hp : p ≤ 150) (hc : n ≤ c) (hd : p ≤ d) (hk : k ≤ n) (hN : min (n - k) p = N) (hx : (es.drop k).take N = (l.drop 0).take N) (hf : ¬ k + p < n) (hbn : (⟨1, be, 0, 0, 0, es ++ l.drop N ++ [⟨4, 0, 0, 0, 0, 0⟩]⟩ : BM).Ok M) (hM : M ≤ 150) (H : St w0 w I) [h : Has I (evIt A es)] [h2 : Has I (evIt B l)] :
    Calls Try.prog 48 #[.agg (bArr ⟨4, be, bf, bd, br, es⟩ A n c), .int .i64 be, .int .i64 k, .slice B p d, .bool true] w (BPost w0 I (⟨1, be, 0, 0, 0, es ++ l.drop N ++ [⟨4, 0, 0, 0, 0, 0⟩]⟩, 0)) := by
  have hn : n ≤ 150 := by have := hb.len; have : n ≤ m := hl ▸ this; omega
  have HI := Lib.hid h
  have HI2 := Lib.hid h2
  have HB := Lib.hid hb
  have HL := Lib.hid hl
  have HLP := Lib.hid hlp
  clear h h2 hb hl hlp
  unfold bArr
  dsimp only
  have d0 : ¬ (k : Int) < 0 := by omega
  have d1 := decide_eq_false d0
  have d3 : ¬ (n : Int) < (k : Int) := by omega
  have d2 := decide_eq_false d3
  have w1 : IntKind.i64.wrap ((n : Int) - (k : Int)) = (n : Int) - (k : Int) := IntWalk.i64_in _ (by omega)
  have hmin : min ((n : Int) - (k : Int)) (p : Int) = (N : Int) := by omega
  have w2 : IntKind.i64.wrap ((k : Int) + (N : Int)) = (k : Int) + (N : Int) := IntWalk.i64_in _ (by omega)
  have w3 : IntKind.i64.wrap ((k : Int) + (p : Int)) = (k : Int) + (p : Int) := IntWalk.i64_in _ (by omega)
  have n1 : k + N ≤ n := by omega
  have n2 : N ≤ p := by omega
  have HN1 := Lib.hid (show ((es.drop k).take N).length = N by simp; have := HL.out; omega)
  have HN2 := Lib.hid (show ((l.drop 0).take N).length = N by simp; have := HLP.out; omega)
  have HTK := Lib.hid (show ((l.drop N).take (p - N)) = l.drop N from List.take_of_length_le (by simp; have := HLP.out; omega))
  have HDR := Lib.hid (show (l.drop N).length = p - N by simp; have := HLP.out; omega)
  obtain ⟨Q, hQ⟩ : ∃ Q, n + (p - N) = Q := ⟨_, rfl⟩
  have HLQ := Lib.hid (show (es ++ l.drop N).length = Q by rw [List.length_append, HL.out, HDR.out]; exact hQ)
  have HQ := Lib.hid hQ
  have HBN := Lib.hid hbn
  have hf1 : ¬ (k : Int) + (p : Int) < (n : Int) := by omega
  have hf2 := decide_eq_false hf1
  have HLQ1 := Lib.hid (show (es ++ l.drop N ++ [(⟨4, 0, 0, 0, 0, 0⟩ : Ev)]).length = Q + 1 by rw [List.length_append, HLQ.out]; rfl)
  have hQ150 : Q ≤ 150 := by have := hbn.len; have h8 : Q + 1 ≤ M := HLQ1.out ▸ this; omega
  have HF := Lib.hid (fun W A' c' (h1 : Q + 1 ≤ c') (h2 : St w0 W (evIt A' (es ++ l.drop N ++ [⟨4, 0, 0, 0, 0, 0⟩]) :: I)) => (BPost.mk (r := (⟨1, be, 0, 0, 0, es ++ l.drop N ++ [⟨4, 0, 0, 0, 0, 0⟩]⟩, 0)) HLQ1.out h1 h2 : BPost w0 I (⟨1, be, 0, 0, 0, es ++ l.drop N ++ [⟨4, 0, 0, 0, 0, 0⟩]⟩, 0) (.returned (.tuple #[.agg #[.int .i64 1, .int .i64 be, .int .i64 0, .int .i64 0, .int .i64 0, .slice A' (Q + 1) c'], .int .i64 0])) W))
  generalize BPost w0 I (⟨1, be, 0, 0, 0, es ++ l.drop N ++ [⟨4, 0, 0, 0, 0, 0⟩]⟩, 0) = POST at *
  clear hbn hQ
  go_enter Try.func48, Try.ntmps48
  go_upto_region 11 with (first | (go_at_call 41; have h := HI.out; refine (check_st ⟨4, be, bf, bd, br, es⟩ A n c m HL.out HB.out hm hc H).mono ?_; clear H h; rintro ed wy ⟨rfl, H⟩) | (first | ((with_reducible refine here_load ?_); first | refine ldR H rfl _ _ rfl rfl (by kernel_rfl) ?_ | refine ldS H rfl _ _ rfl rfl (by rfl) ?_ | refine ldSG H (by rfl) _ _ rfl rfl (by rfl) ?_ | refine ldRG H (by rfl) _ _ rfl rfl (by kernel_rfl) ?_) | ((with_reducible refine here_store ?_); first | (refine stR H rfl _ _ _ rfl rfl rfl (by rfl) (by rfl) (by kernel_rfl) ?_; clear H; intro wx H) | (refine stS H rfl _ _ _ rfl rfl _ rfl (by rfl) (by rfl) (by rfl) ?_; clear H; intro wx H)) | ((with_reducible refine here_alloc ?_); first | (refine wpList_alloc_st H rfl 37 rfl _ q_zero ?_; clear H; intro gq wx H) | (refine wpList_alloc_st H rfl 48 rfl _ ans_zero ?_; clear H; intro ga wx H) | (refine wpList_alloc_st H rfl 44 rfl _ ev_zero ?_; clear H; intro ge wx H) | (refine wpList_alloc_st H rfl 58 rfl _ ber_zero ?_; clear H; intro gr wx H)) | ((with_reducible refine here_box ?_); refine wpList_box_st H rfl _ _ rfl _ rfl ?_; clear H; intro gb wx H)))
  (try simp only [Act.put])
  
  refine startS (H.subm (.bl gb 58 #[.int .i64 4, .int .i64 be, .int .i64 bf, .int .i64 bd, .int .i64 br, .slice A n c] :: I)) (by kernel_rfl) (fun HS => ?_)
  replace H := H.drew
  refine takeV (i := 0) (v := ?_) rfl (by kernel_rfl) (by kernel_rfl) (by kernel_rfl) (fun _ _ _ h => h) (by rfl) ?_ HS ?_
  rotate_left
  · (intro W hW; go_simp; try with_reducible rfl)
  (try simp only [Act.put, List.setIfInBounds_toArray, List.set_cons_zero, List.set_cons_succ])
  refine take1_st (i := 1) 23 _ rfl rfl rfl sc_Evs _ (by rfl) (by kernel_rfl) (by kernel_rfl) (by kernel_rfl) (fun _ _ _ _ h => h) (by rfl) HS ?_
  (try simp only [Act.put, List.setIfInBounds_toArray, List.set_cons_zero, List.set_cons_succ])
  refine takeMove (i := 2) rfl rfl _ (by rfl) (by kernel_rfl) (by kernel_rfl) (by kernel_rfl) (fun _ _ _ _ h => h) (by rfl) HS ?_
  (try simp only [Act.put, List.setIfInBounds_toArray, List.set_cons_zero, List.set_cons_succ])
  refine takeMove (i := 3) rfl rfl _ (by rfl) (by kernel_rfl) (by kernel_rfl) (by kernel_rfl) (fun _ _ _ _ h => h) (by rfl) HS ?_
  (try simp only [Act.put, List.setIfInBounds_toArray, List.set_cons_zero, List.set_cons_succ])
  refine takeMove (i := 4) rfl rfl _ (by rfl) (by kernel_rfl) (by kernel_rfl) (by kernel_rfl) (fun _ _ _ _ h => h) (by rfl) HS ?_
  (try simp only [Act.put, List.setIfInBounds_toArray, List.set_cons_zero, List.set_cons_succ])
  refine takeV (i := 5) (v := ?_) rfl (by kernel_rfl) (by kernel_rfl) (by kernel_rfl) (fun _ _ _ h => h) (by rfl) ?_ HS ?_
  rotate_left
  · (intro W hW; go_simp; try with_reducible rfl)
  (try simp only [Act.put, List.setIfInBounds_toArray, List.set_cons_zero, List.set_cons_succ])
  refine takeMove (i := 6) rfl rfl _ (by rfl) (by kernel_rfl) (by kernel_rfl) (by kernel_rfl) (fun _ _ _ _ h => h) (by rfl) HS ?_
  (try simp only [Act.put, List.setIfInBounds_toArray, List.set_cons_zero, List.set_cons_succ])
  refine takeMove (i := 7) rfl rfl _ (by rfl) (by kernel_rfl) (by kernel_rfl) (by kernel_rfl) (fun _ _ _ _ h => h) (by rfl) HS ?_
  (try simp only [Act.put, List.setIfInBounds_toArray, List.set_cons_zero, List.set_cons_succ])
  refine takeV (i := 8) (v := ?_) rfl (by kernel_rfl) (by kernel_rfl) (by kernel_rfl) (fun _ _ _ h => h) (by rfl) ?_ HS ?_
  rotate_left
  · (intro W hW; go_simp; try with_reducible rfl)
  (try simp only [Act.put, List.setIfInBounds_toArray, List.set_cons_zero, List.set_cons_succ])
  refine takeSlice (i := 9) rfl rfl Try.underlying23 (s := 6) (by kernel_rfl) rfl (k) (k + N) (k + N) (.inl ⟨_, rfl, by omega⟩) (.inl ⟨_, rfl, by omega⟩) (.inl ⟨_, rfl, by omega⟩) (fun h => by cases h) (by omega) (by omega) (by omega) (N) (N) (by omega) (by omega) (by kernel_rfl) (by kernel_rfl) (by kernel_rfl) (fun _ _ _ _ h => h) (by rfl) HS ?_
  (try simp only [Act.put, List.setIfInBounds_toArray, List.set_cons_zero, List.set_cons_succ])
  refine takeMove (i := 10) rfl rfl _ (by rfl) (by kernel_rfl) (by kernel_rfl) (by kernel_rfl) (fun _ _ _ _ h => h) (by rfl) HS ?_
  (try simp only [Act.put, List.setIfInBounds_toArray, List.set_cons_zero, List.set_cons_succ])
  refine takeMove (i := 11) rfl rfl _ (by rfl) (by kernel_rfl) (by kernel_rfl) (by kernel_rfl) (fun _ _ _ _ h => h) (by rfl) HS ?_
  (try simp only [Act.put, List.setIfInBounds_toArray, List.set_cons_zero, List.set_cons_succ])
  refine takeMove (i := 12) rfl rfl _ (by rfl) (by kernel_rfl) (by kernel_rfl) (by kernel_rfl) (fun _ _ _ _ h => h) (by rfl) HS ?_
  (try simp only [Act.put, List.setIfInBounds_toArray, List.set_cons_zero, List.set_cons_succ])
  refine takeSlice (i := 13) rfl rfl Try.underlying23 (s := 6) (by kernel_rfl) rfl (0) (N) (N) (.inr ⟨rfl, rfl⟩) (.inl ⟨_, rfl, by omega⟩) (.inl ⟨_, rfl, by omega⟩) (fun h => by cases h) (by omega) (by omega) (by omega) (N) (N) (by omega) (by omega) (by kernel_rfl) (by kernel_rfl) (by kernel_rfl) (fun _ _ _ _ h => h) (by rfl) HS ?_
  (try simp only [Act.put, List.setIfInBounds_toArray, List.set_cons_zero, List.set_cons_succ])
  refine branchH [14] (by kernel_rfl) (by kernel_rfl) (AllStep.cons ?_ AllStep.nil)
  refine stepH_do (i := 14) rfl (by rfl) ?_
  have h := HI.out
  have h2 := HI2.out
  replace H := (H.subEv (A := A) (es := es) k N (k + N) (by rw [HL.out]; omega) (by omega)).subEv (A := B) (es := l) 0 N N (by rw [HLP.out]; omega) (by omega)
  refine wp_call_st rfl Try.func64 (by kernel_rfl) (by kernel_rfl) _ ?_ ((eqEv_st ((es.drop k).take N) ((l.drop 0).take N) (subA A k (k + N) 6) (subA B 0 N 6) N N N HN1.out HN2.out H (by omega) (Nat.le_refl _) (Nat.le_refl _)).mono ?_)
  · rfl
  clear H h h2
  rintro ed wy ⟨v, rfl, hv, H⟩
  obtain rfl : v = true := hv.2 hx
  clear hv hx
  replace HS := HS.of H
  refine ⟨_, rfl, HS, ?_⟩
  (try simp only [Act.put, List.setIfInBounds_toArray, List.set_cons_zero, List.set_cons_succ])
  refine takeV (i := 15) (v := ?_) rfl (by kernel_rfl) (by kernel_rfl) (by kernel_rfl) (fun _ _ _ h => h) (by rfl) ?_ HS ?_
  rotate_left
  · (intro W hW; go_simp; try with_reducible rfl)
  (try simp only [Act.put, List.setIfInBounds_toArray, List.set_cons_zero, List.set_cons_succ])
  refine doneH (by kernel_rfl) ?_
  go_upto_region 13 with (first | ((with_reducible refine here_load ?_); first | refine ldR H rfl _ _ rfl rfl (by kernel_rfl) ?_ | refine ldS H rfl _ _ rfl rfl (by rfl) ?_ | refine ldSG H (by rfl) _ _ rfl rfl (by rfl) ?_ | refine ldRG H (by rfl) _ _ rfl rfl (by kernel_rfl) ?_) | ((with_reducible refine here_store ?_); first | (refine stR H rfl _ _ _ rfl rfl rfl (by rfl) (by rfl) (by kernel_rfl) ?_; clear H; intro wx H) | (refine stS H rfl _ _ _ rfl rfl _ rfl (by rfl) (by rfl) (by rfl) ?_; clear H; intro wx H)) | ((with_reducible refine here_alloc ?_); first | (refine wpList_alloc_st H rfl 37 rfl _ q_zero ?_; clear H; intro gq2 wx H) | (refine wpList_alloc_st H rfl 48 rfl _ ans_zero ?_; clear H; intro ga2 wx H) | (refine wpList_alloc_st H rfl 44 rfl _ ev_zero ?_; clear H; intro ge2 wx H) | (refine wpList_alloc_st H rfl 58 rfl _ ber_zero ?_; clear H; intro gr2 wx H)) | ((with_reducible refine here_box ?_); refine wpList_box_st H rfl _ _ rfl _ rfl ?_; clear H; intro gb2 wx H))
  (try simp only [Act.put])
  
  refine startS (H.subm (.bl gb 58 #[.int .i64 4, .int .i64 be, .int .i64 bf, .int .i64 bd, .int .i64 br, .slice A n c] :: I)) (by kernel_rfl) (fun HS => ?_)
  replace H := H.drew
  refine takeRow_st (i := 0) 58 _ rfl rfl rfl row_Berth (by kernel_rfl) (by kernel_rfl) (by kernel_rfl) (by kernel_rfl) (fun _ _ _ _ h => h) (by rfl) HS ?_
  (try simp only [Act.put, List.setIfInBounds_toArray, List.set_cons_zero, List.set_cons_succ])
  refine takeMove (i := 1) rfl rfl _ (by rfl) (by kernel_rfl) (by kernel_rfl) (by kernel_rfl) (fun _ _ _ _ h => h) (by rfl) HS ?_
  (try simp only [Act.put, List.setIfInBounds_toArray, List.set_cons_zero, List.set_cons_succ])
  refine takeMove (i := 2) rfl rfl _ (by rfl) (by kernel_rfl) (by kernel_rfl) (by kernel_rfl) (fun _ _ _ _ h => h) (by rfl) HS ?_
  (try simp only [Act.put, List.setIfInBounds_toArray, List.set_cons_zero, List.set_cons_succ])
  refine takeSlice (i := 3) rfl rfl Try.underlying23 (s := 6) (by kernel_rfl) rfl (N) (p) (d) (.inl ⟨_, rfl, by omega⟩) (.inr ⟨rfl, rfl⟩) (.inr ⟨rfl, rfl⟩) (fun _ => rfl) (by omega) (by omega) (by omega) (p - N) (d - N) (by omega) (by omega) (by kernel_rfl) (by kernel_rfl) (by kernel_rfl) (fun _ _ _ _ h => h) (by rfl) HS ?_
  (try simp only [Act.put, List.setIfInBounds_toArray, List.set_cons_zero, List.set_cons_succ])
  refine branchH [4, 5] (by kernel_rfl) (by kernel_rfl) (AllStep.cons ?_ (AllStep.cons ?_ AllStep.nil))
  · refine stepH_do (i := 4) rfl (by rfl) ?_
    have h := HI.out
    have h2 := HI2.out
    replace H := H.subEv (A := B) (es := l) N (p - N) d (by rw [HLP.out]; omega) (by omega)
    rw [HTK.out] at H
    refine wp_call_st rfl Try.func45 (by kernel_rfl) (by kernel_rfl) _ ?_ ((with_st ⟨4, be, bf, bd, br, es⟩ (l.drop N) A (subA B N d 6) n c (p - N) (d - N) HL.out HDR.out hn (by omega) hc H).mono ?_)
    · rfl
    clear H h h2
    rintro ed wy ⟨A9, c9, rfl, hc9, H⟩
    rw [HQ.out] at hc9 ⊢
    replace HS := HS.of H
    refine ⟨_, rfl, HS, ?_⟩
    (try simp only [Act.put, List.setIfInBounds_toArray, List.set_cons_zero, List.set_cons_succ])
    refine branchH [5] (by kernel_rfl) (by kernel_rfl) (AllStep.cons ?_ AllStep.nil)
    refine stepH_do (i := 5) rfl (by rfl) ?_
    refine wp_alloc_st H 58 rfl _ ber_zero ?_
    clear H
    intro gro wx H
    replace HS := HS.of H
    refine ⟨HS, ?_⟩
    (try simp only [Act.put, List.setIfInBounds_toArray, List.set_cons_zero, List.set_cons_succ])
    refine branchH [6] (by kernel_rfl) (by kernel_rfl) (AllStep.cons ?_ AllStep.nil)
    refine stepH_do (i := 6) rfl (by rfl) ?_
    refine wp_store_st H 58 _ _ rfl rfl rfl (by kernel_rfl) (by rfl) (by kernel_rfl) ?_
    clear H
    intro wx H
    replace HS := HS.of H
    refine ⟨HS, ?_⟩
    (try simp only [Act.put])
    refine doneH (by kernel_rfl) ?_
    go_wp2_with (first | (go_at_call 41; refine (check_st ⟨1, be, 0, 0, 0, es ++ l.drop N ++ [⟨4, 0, 0, 0, 0, 0⟩]⟩ A8 (Q + 1) c8 M HLQ1.out HBN.out hM hc8 H).mono ?_; clear H; rintro ed wy ⟨rfl, H⟩) | (go_at_call 45; refine (with_st ⟨1, be, 0, 0, 0, es ++ l.drop N⟩ [⟨4, 0, 0, 0, 0, 0⟩] A9 (some ⟨gs, 0, none⟩) Q c9 1 1 HLQ.out rfl hQ150 (by omega) hc9 H).mono ?_; clear H; rintro ed wy ⟨A8, c8, rfl, hc8, H⟩) | ((with_reducible refine here_buildSlice ?_); refine wpList_buildSlice1_st H rfl 23 _ rfl 44 Try.underlying23 _ rfl _ ev_info2 (by rfl) (by rfl) ?_; clear H; intro gs wx H; replace H := H.oneEv) | (first | ((with_reducible refine here_load ?_); first | refine ldR H rfl _ _ rfl rfl (by kernel_rfl) ?_ | refine ldS H rfl _ _ rfl rfl (by rfl) ?_ | refine ldSG H (by rfl) _ _ rfl rfl (by rfl) ?_ | refine ldRG H (by rfl) _ _ rfl rfl (by kernel_rfl) ?_) | ((with_reducible refine here_store ?_); first | (refine stR H rfl _ _ _ rfl rfl rfl (by rfl) (by rfl) (by kernel_rfl) ?_; clear H; intro wx H) | (refine stS H rfl _ _ _ rfl rfl _ rfl (by rfl) (by rfl) (by rfl) ?_; clear H; intro wx H)) | ((with_reducible refine here_alloc ?_); first | (refine wpList_alloc_st H rfl 37 rfl _ q_zero ?_; clear H; intro gq3 wx H) | (refine wpList_alloc_st H rfl 48 rfl _ ans_zero ?_; clear H; intro ga3 wx H) | (refine wpList_alloc_st H rfl 44 rfl _ ev_zero ?_; clear H; intro ge3 wx H) | (refine wpList_alloc_st H rfl 58 rfl _ ber_zero ?_; clear H; intro gr3 wx H)) | ((with_reducible refine here_box ?_); refine wpList_box_st H rfl _ _ rfl _ rfl ?_; clear H; intro gb3 wx H)))
    have l4 : (loadVar 58 ⟨gr, 0, none⟩).run Try.prog wx = .ok (.agg #[.int .i64 1, .int .i64 be, .int .i64 0, .int .i64 0, .int .i64 0, .slice A8 (Q + 1) c8]) wx := H.loadRow 58 gr row_Berth (P := Try.prog) (by kernel_rfl)
    exact bodyPost_ret (v := .tuple #[.agg #[.int .i64 1, .int .i64 be, .int .i64 0, .int .i64 0, .int .i64 0, .slice A8 (Q + 1) c8], .int .i64 0]) (by simp [results, Try.results48, asAddr, l4]) rfl (HF.out _ _ _ hc8 (H.subm _))
  · refine stepH_do (i := 5) rfl (by rfl) ?_
    refine wp_alloc_st H 58 rfl _ ber_zero ?_
    clear H
    intro gro wx H
    replace HS := HS.of H
    refine ⟨HS, ?_⟩
    (try simp only [Act.put, List.setIfInBounds_toArray, List.set_cons_zero, List.set_cons_succ])
    refine branchH [4] (by kernel_rfl) (by kernel_rfl) (AllStep.cons ?_ AllStep.nil)
    refine stepH_do (i := 4) rfl (by rfl) ?_
    have h := HI.out
    have h2 := HI2.out
    replace H := H.subEv (A := B) (es := l) N (p - N) d (by rw [HLP.out]; omega) (by omega)
    rw [HTK.out] at H
    refine wp_call_st rfl Try.func45 (by kernel_rfl) (by kernel_rfl) _ ?_ ((with_st ⟨4, be, bf, bd, br, es⟩ (l.drop N) A (subA B N d 6) n c (p - N) (d - N) HL.out HDR.out hn (by omega) hc H).mono ?_)
    · rfl
    clear H h h2
    rintro ed wy ⟨A9, c9, rfl, hc9, H⟩
    rw [HQ.out] at hc9 ⊢
    replace HS := HS.of H
    refine ⟨_, rfl, HS, ?_⟩
    (try simp only [Act.put, List.setIfInBounds_toArray, List.set_cons_zero, List.set_cons_succ])
    refine branchH [6] (by kernel_rfl) (by kernel_rfl) (AllStep.cons ?_ AllStep.nil)
    refine stepH_do (i := 6) rfl (by rfl) ?_
    refine wp_store_st H 58 _ _ rfl rfl rfl (by kernel_rfl) (by rfl) (by kernel_rfl) ?_
    clear H
    intro wx H
    replace HS := HS.of H
    refine ⟨HS, ?_⟩
    (try simp only [Act.put])
    refine doneH (by kernel_rfl) ?_
    go_wp2_with (first | (go_at_call 41; refine (check_st ⟨1, be, 0, 0, 0, es ++ l.drop N ++ [⟨4, 0, 0, 0, 0, 0⟩]⟩ A8 (Q + 1) c8 M HLQ1.out HBN.out hM hc8 H).mono ?_; clear H; rintro ed wy ⟨rfl, H⟩) | (go_at_call 45; refine (with_st ⟨1, be, 0, 0, 0, es ++ l.drop N⟩ [⟨4, 0, 0, 0, 0, 0⟩] A9 (some ⟨gs, 0, none⟩) Q c9 1 1 HLQ.out rfl hQ150 (by omega) hc9 H).mono ?_; clear H; rintro ed wy ⟨A8, c8, rfl, hc8, H⟩) | ((with_reducible refine here_buildSlice ?_); refine wpList_buildSlice1_st H rfl 23 _ rfl 44 Try.underlying23 _ rfl _ ev_info2 (by rfl) (by rfl) ?_; clear H; intro gs wx H; replace H := H.oneEv) | (first | ((with_reducible refine here_load ?_); first | refine ldR H rfl _ _ rfl rfl (by kernel_rfl) ?_ | refine ldS H rfl _ _ rfl rfl (by rfl) ?_ | refine ldSG H (by rfl) _ _ rfl rfl (by rfl) ?_ | refine ldRG H (by rfl) _ _ rfl rfl (by kernel_rfl) ?_) | ((with_reducible refine here_store ?_); first | (refine stR H rfl _ _ _ rfl rfl rfl (by rfl) (by rfl) (by kernel_rfl) ?_; clear H; intro wx H) | (refine stS H rfl _ _ _ rfl rfl _ rfl (by rfl) (by rfl) (by rfl) ?_; clear H; intro wx H)) | ((with_reducible refine here_alloc ?_); first | (refine wpList_alloc_st H rfl 37 rfl _ q_zero ?_; clear H; intro gq3 wx H) | (refine wpList_alloc_st H rfl 48 rfl _ ans_zero ?_; clear H; intro ga3 wx H) | (refine wpList_alloc_st H rfl 44 rfl _ ev_zero ?_; clear H; intro ge3 wx H) | (refine wpList_alloc_st H rfl 58 rfl _ ber_zero ?_; clear H; intro gr3 wx H)) | ((with_reducible refine here_box ?_); refine wpList_box_st H rfl _ _ rfl _ rfl ?_; clear H; intro gb3 wx H)))
    have l4 : (loadVar 58 ⟨gr, 0, none⟩).run Try.prog wx = .ok (.agg #[.int .i64 1, .int .i64 be, .int .i64 0, .int .i64 0, .int .i64 0, .slice A8 (Q + 1) c8]) wx := H.loadRow 58 gr row_Berth (P := Try.prog) (by kernel_rfl)
    exact bodyPost_ret (v := .tuple #[.agg #[.int .i64 1, .int .i64 be, .int .i64 0, .int .i64 0, .int .i64 0, .slice A8 (Q + 1) c8], .int .i64 0]) (by simp [results, Try.results48, asAddr, l4]) rfl (HF.out _ _ _ hc8 (H.subm _))

end Go.Proofs.Ytjmncbfmjeeneaa
