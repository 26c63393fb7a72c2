/- ClientSafe: for every input the law returns true. The walk lies in XLawClientSafe; here the row's frame. Conditions: none. -/
import Derived.Test.YtjmncbfmjeeneaaRows
import Derived.OpenShut
import Derived.ChangeOld
import Derived.Test.YtjmncbfmjeeneaaClientSafeC1

namespace Go.Proofs.Ytjmncbfmjeeneaa
open Go.RowKit

theorem row_Client : (match Try.prog.underlying 26 with | some (.struct _) | some (.array _ _) => true | _ => false) = true := by kernel_rfl
instance rowTy_Client : RowTy 26 7 := ⟨by kernel_rfl, by kernel_rfl⟩
theorem row_Window : (match Try.prog.underlying 34 with | some (.struct _) | some (.array _ _) => true | _ => false) = true := by kernel_rfl
theorem cli_zero : (Try.prog.info? 26).bind (·.zero) = some (.agg #[.int .i64 0, .int .i64 0, .slice none 0 0, .int .i64 0, .int .i64 0, .int .i64 0, .int .i64 0]) := by kernel_rfl
theorem qArr_win1 (q : QM) (A1 : Option Addr) (c1 : Nat) (A2 : Option Addr) (c2 : Nat) : (qArr q A1 c1 A2 c2).extract 14 (14 + 9) = winCells (q.t 1) (shows (q.t 1) (q.S 1)) := by kernel_rfl
theorem errand {w : World} {A : Option Addr} {n c : Nat} {rows : List (List Int)} (h : IsRows 2 16 w A n c rows) (i : Nat) (hi : i < n) : ∃ b off x0 x1, A = some ⟨b, off, none⟩ ∧ b < w.heap.size ∧ w.cell? ⟨b, off + i * 2, none⟩ = some (.int .i64 x0) ∧ w.cell? ⟨b, off + i * 2 + 1, none⟩ = some (.int .i64 x1) ∧ Is64 x0 ∧ Is64 x1 ∧ n ≤ c := by
  obtain ⟨hl, hnc, _, hr, hs⟩ := h
  have hri : rows[i]? = some (rows.getD i []) := by rw [List.getElem?_eq_getElem (show i < rows.length by omega)]; simp [List.getD, List.getElem?_eq_getElem (show i < rows.length by omega)]
  obtain ⟨b, off, hA, hb, hcell⟩ := rowAt hr hl (fun r hr => (hs r hr).1) (by omega) hi hri
  have hm := hs _ (List.mem_of_getElem? hri)
  generalize rows.getD i [] = r at *
  match r, hm with
  | [x0, x1], hm => exact ⟨b, off, x0, x1, hA, hb, hcell 0 x0 rfl, hcell 1 x1 rfl, is64_of_wf (hm.2 x0 (by simp)), is64_of_wf (hm.2 x1 (by simp)), hnc⟩
set_option maxRecDepth 100000 in
set_option maxHeartbeats 8000000 in
theorem clientSafe_walk (A0 : Option Addr) (n0 c0 : Nat) (rows : List (List Int)) (w : World) (h : IsRows 2 16 w A0 n0 c0 rows) :
    Calls Try.prog 3 #[.slice A0 n0 c0] w fun e w' => e = .returned (.bool true) ∧ Below w.heap.size w w' := by
  have H := St.start w
  have HRW := Lib.hid h
  clear h
  go_enter Try.func3, Try.ntmps3
  go_upto_region 7 with (first | (go_at_call 9; (with_reducible refine (cnew_st H).mono ?_); clear H; rintro ed wy ⟨rfl, H⟩) | (first | ((with_reducible refine here_load ?_); first | refine ldR H rfl _ _ rfl rfl (by kernel_rfl) ?_ | refine ldS H rfl _ _ rfl rfl (by rfl) ?_ | refine ldSG H (by rfl) _ _ rfl rfl (by rfl) ?_ | refine ldRG H (by rfl) _ _ rfl rfl (by kernel_rfl) ?_) | ((with_reducible refine here_store ?_); first | (refine stR H rfl _ _ _ rfl rfl rfl (by rfl) (by rfl) (by kernel_rfl) ?_; clear H; intro wx H) | (refine stS H rfl _ _ _ rfl rfl _ rfl (by rfl) (by rfl) (by rfl) ?_; clear H; intro wx H)) | ((with_reducible refine here_alloc ?_); first | (refine wpList_alloc_st H rfl 37 rfl _ q_zero ?_; clear H; intro gq0 wx H) | (refine wpList_alloc_st H rfl 48 rfl _ ans_zero ?_; clear H; intro ga0 wx H) | (refine wpList_alloc_st H rfl 44 rfl _ ev_zero ?_; clear H; intro ge0 wx H) | (refine wpList_alloc_st H rfl 26 rfl _ cli_zero ?_; clear H; intro gl0 wx H)) | ((with_reducible refine here_box ?_); refine wpList_box_st H rfl _ _ rfl _ rfl ?_; clear H; intro gb0 wx H)))
  (try simp only [Act.put])
  have H1 := ((H.old (s := 4) (n := 0) (A := none) (xs := []) Reads.none_).old (s := 2) (n := 0) (A := none) (xs := []) Reads.none_).old (s := 6) (n := 0) (A := none) (xs := []) Reads.none_
  replace H : St w wx [.bl gl0 26 (cl7 1 (0 : Int) none 0 0), .bl gq0 37 (qArr QM.zero none 0 none 0), evIt none (wEv 1 []), rdIt QM.zero none, lsIt QM.zero none] := (show St w wx [evIt none (wEv 1 []), rdIt QM.zero none, lsIt QM.zero none, .bl gq0 37 (qArr QM.zero none 0 none 0), .bl gl0 26 (cl7 1 (0 : Int) none 0 0)] from H1).subm _
  clear H1
  go_loopw [6, 7] (fun s6 s7 wr => ∃ (i sent : Nat) (ws : List (Int × Int)) (n : Nat) (A : Option Addr) (c : Nat) (q : QM) (A1 : Option Addr) (c1 : Nat) (A2 : Option Addr) (c2 : Nat), s6 = .int .i64 sent ∧ s7 = .int .i64 i ∧ i ≤ n0 ∧ CS i sent ws q ∧ ws.length = n ∧ n ≤ c ∧ q.rd.length ≤ c1 ∧ q.ls.length ≤ c2 ∧ St w wr [.bl gl0 26 (cl7 1 (sent : Int) A n c), .bl gq0 37 (qArr q A1 c1 A2 c2), evIt A (wEv 1 ws), rdIt q A1, lsIt q A2]) (fun _ s7 _ => 80 - (intOf s7).toNat)
  case atStart => exact ⟨0, 0, [], 0, none, 0, QM.zero, none, 0, none, 0, rfl, rfl, by omega, CS.start, rfl, Nat.le_refl _, Nat.le_refl _, Nat.le_refl _, H⟩
  case round =>
    clear H
    obtain ⟨i, sent, ws, n, A, c, q, A1, c1, A2, c2, rfl, rfl, hin, hcs, hl, hnc, hq1, hq2, H⟩ := hrel
    have hn8 := hcs.end_
    have hi80 := hcs.i80
    have hsi := hcs.si
    have HCS := Lib.hid hcs
    have HL := Lib.hid hl
    have hn88 : n ≤ 8 := by omega
    have hqn := hn8.1
    have i0 : (0 : Int) ≤ (i : Int) := by omega
    have wi : IntKind.i64.wrap ((i : Int) + 1) = (i : Int) + 1 := IntWalk.i64_in _ (by omega)
    clear hn8
    by_cases hlt : i < n0 ∧ i < 80
    · have f1 : (i : Int) < (n0 : Int) := by omega
      have f2 := decide_eq_true f1
      have f3 : (i : Int) < 80 := by omega
      have f4 := decide_eq_true f3
      obtain ⟨b8, off, x0, x1, hA8, hb8, g0, g1_, hx0, hx1, hnc0⟩ := errand HRW.out i hlt.1
      subst hA8
      have q0 := (H.bel.cell (p := ⟨b8, off + i * 2, none⟩) hb8).trans g0
      have QX := Lib.hid (fun W (hb : Below w.heap.size w W) => (hb.cell (p := ⟨b8, off + i * 2 + 1, none⟩) hb8).trans g1_)
      have f5 : (n0 : Int) ≤ (c0 : Int) := by omega
      have HI8 := Lib.hid hlt.2
      have HIN := Lib.hid hlt.1
      have PKK := Lib.hid (fun W => (picked_any x0 3 W (hx0).1 (hx0).2 (by omega) (by omega)).mono (fun e w' h => (⟨h.1, h.2.symm⟩ : e = .returned (.int .i64 (pick x0 3)) ∧ w' = W)))
      have kkl := pick_lo x0 3 (by omega)
      have kkh := pick_hi x0 3 (by omega)
      obtain ⟨kk, hkk⟩ : ∃ x, pick x0 3 = x := ⟨_, rfl⟩
      rw [hkk] at PKK kkl kkh
      clear hkk
      clear g0 g1_ hb8 hnc0 hlt hin hl hcs hqn
      rcases (show kk = 0 ∨ kk = 1 ∨ kk = 2 by omega) with rfl | rfl | rfl
      · clear kkl kkh
        as_aux_lemma =>
          have hbody0 : (0 : Int) ≤ (i : Int) := by omega
          by_cases hfull : 0 < n ∧ 8 ≤ (sent : Int) - (ws.getD 0 (0, 0)).1
          · have SND := Lib.hid (fun W J (H : St w W J) (hI : Has J (evIt A (wEv 1 ws))) => cfull_st (hI := hI) (w0 := w) (w := W) (I := J) sent i A n c ws HCS.out.ok HL.out (by omega) (by omega) hfull.1 hfull.2 (by omega) (by omega) H)
            clear hfull
            go_wp2_with (first | (go_at_call 10; with_reducible refine (PKK.out _).mono ?_; rintro ed wy ⟨rfl, rfl⟩) | (go_at_call 11; (with_reducible refine (SND.out _ _ H inferInstance).mono ?_); clear H; rintro ed wy ⟨rfl, H⟩) | (first | ((with_reducible refine here_load ?_); first | refine ldR H rfl _ _ rfl rfl (by kernel_rfl) ?_ | refine ldS H rfl _ _ rfl rfl (by rfl) ?_ | refine ldSG H (by rfl) _ _ rfl rfl (by rfl) ?_ | refine ldRG H (by rfl) _ _ rfl rfl (by kernel_rfl) ?_) | ((with_reducible refine here_store ?_); first | (refine stR H rfl _ _ _ rfl rfl rfl (by rfl) (by rfl) (by kernel_rfl) ?_; clear H; intro wx H) | (refine stS H rfl _ _ _ rfl rfl _ rfl (by rfl) (by rfl) (by rfl) ?_; clear H; intro wx H)) | ((with_reducible refine here_alloc ?_); first | (refine wpList_alloc_st H rfl 37 rfl _ q_zero ?_; clear H; intro gq1 wx H) | (refine wpList_alloc_st H rfl 48 rfl _ ans_zero ?_; clear H; intro ga1 wx H) | (refine wpList_alloc_st H rfl 44 rfl _ ev_zero ?_; clear H; intro ge1 wx H) | (refine wpList_alloc_st H rfl 26 rfl _ cli_zero ?_; clear H; intro gl1 wx H)) | ((with_reducible refine here_box ?_); refine wpList_box_st H rfl _ _ rfl _ rfl ?_; clear H; intro gb1 wx H)))
            go_roundw
            case rel => exact ⟨i + 1, sent, ws, n, A, c, q, A1, c1, A2, c2, rfl, by go_num, by have := HIN.out; omega, HCS.out.next HI8.out, HL.out, hnc, hq1, hq2, H.subm _⟩
            case measure => have := HI8.out; simp [intOf] <;> omega
          · have SND := Lib.hid (fun W J (H : St w W J) (hI : Has J (evIt A (wEv 1 ws))) => (show Calls Try.prog 11 #[.agg (cl7 1 (sent : Int) A n c), .int .i64 (i : Int)] W (fun ed w' => ∃ A' c', ed = .returned (.tuple #[.agg (cl7 1 ((sent + 1 : Nat) : Int) A' (n + 1) c'), .agg #[.int .i64 1, .int .i64 1, .int .i64 sent, .int .i64 i, .int .i64 0, .int .i64 0], .int .i64 0]) ∧ n + 1 ≤ c' ∧ St w w' (evIt A' (wEv 1 (ws ++ [((sent : Int), (i : Int))])) :: J)) from csend_st (hI := hI) (w0 := w) (w := W) (I := J) sent i A n c ws HCS.out.ok HL.out (by omega) hnc (by omega) (by omega) (by omega) (by omega) H))
            have HNX := Lib.hid (HCS.out.send HI8.out (i : Int) (by rw [HL.out]; omega) (by omega) (by omega))
            have HLN := Lib.hid (show (ws ++ [((sent : Int), (i : Int))]).length = n + 1 from by rw [List.length_append, HL.out]; rfl)
            have ws1 : IntKind.i64.wrap ((sent : Int) + 1) = (sent : Int) + 1 := IntWalk.i64_in _ (by omega)
            clear hfull
            go_wp2_with (first | (go_at_call 10; with_reducible refine (PKK.out _).mono ?_; rintro ed wy ⟨rfl, rfl⟩) | (go_at_call 11; (with_reducible refine (SND.out _ _ H inferInstance).mono ?_); clear H; rintro ed wy ⟨A', c', rfl, hc', H⟩) | (first | ((with_reducible refine here_load ?_); first | refine ldR H rfl _ _ rfl rfl (by kernel_rfl) ?_ | refine ldS H rfl _ _ rfl rfl (by rfl) ?_ | refine ldSG H (by rfl) _ _ rfl rfl (by rfl) ?_ | refine ldRG H (by rfl) _ _ rfl rfl (by kernel_rfl) ?_) | ((with_reducible refine here_store ?_); first | (refine stR H rfl _ _ _ rfl rfl rfl (by rfl) (by rfl) (by kernel_rfl) ?_; clear H; intro wx H) | (refine stS H rfl _ _ _ rfl rfl _ rfl (by rfl) (by rfl) (by rfl) ?_; clear H; intro wx H)) | ((with_reducible refine here_alloc ?_); first | (refine wpList_alloc_st H rfl 37 rfl _ q_zero ?_; clear H; intro gq2 wx H) | (refine wpList_alloc_st H rfl 48 rfl _ ans_zero ?_; clear H; intro ga2 wx H) | (refine wpList_alloc_st H rfl 44 rfl _ ev_zero ?_; clear H; intro ge2 wx H) | (refine wpList_alloc_st H rfl 26 rfl _ cli_zero ?_; clear H; intro gl2 wx H)) | ((with_reducible refine here_box ?_); refine wpList_box_st H rfl _ _ rfl _ rfl ?_; clear H; intro gb2 wx H)))
            go_roundw
            case rel => exact ⟨i + 1, sent + 1, ws ++ [((sent : Int), (i : Int))], n + 1, A', c', q, A1, c1, A2, c2, by go_num, by go_num, by have := HIN.out; omega, HNX.out, HLN.out, hc', hq1, hq2, H.subm [.bl gl0 26 (cl7 1 ((sent : Int) + 1) A' (n + 1) c'), .bl gq0 37 (qArr q A1 c1 A2 c2), evIt A' (wEv 1 (ws ++ [((sent : Int), (i : Int))])), rdIt q A1, lsIt q A2]⟩
            case measure => have := HI8.out; simp [intOf] <;> omega
      · clear kkl kkh
        as_aux_lemma =>
          by_cases hn0 : n = 0
          · subst hn0
            go_wp2_with (first | (go_at_call 10; with_reducible refine (PKK.out _).mono ?_; rintro ed wy ⟨rfl, rfl⟩) | (first | ((with_reducible refine here_load ?_); first | refine ldR H rfl _ _ rfl rfl (by kernel_rfl) ?_ | refine ldS H rfl _ _ rfl rfl (by rfl) ?_ | refine ldSG H (by rfl) _ _ rfl rfl (by rfl) ?_ | refine ldRG H (by rfl) _ _ rfl rfl (by kernel_rfl) ?_) | ((with_reducible refine here_store ?_); first | (refine stR H rfl _ _ _ rfl rfl rfl (by rfl) (by rfl) (by kernel_rfl) ?_; clear H; intro wx H) | (refine stS H rfl _ _ _ rfl rfl _ rfl (by rfl) (by rfl) (by rfl) ?_; clear H; intro wx H)) | ((with_reducible refine here_alloc ?_); first | (refine wpList_alloc_st H rfl 37 rfl _ q_zero ?_; clear H; intro gq3 wx H) | (refine wpList_alloc_st H rfl 48 rfl _ ans_zero ?_; clear H; intro ga3 wx H) | (refine wpList_alloc_st H rfl 44 rfl _ ev_zero ?_; clear H; intro ge3 wx H) | (refine wpList_alloc_st H rfl 26 rfl _ cli_zero ?_; clear H; intro gl3 wx H)) | ((with_reducible refine here_box ?_); refine wpList_box_st H rfl _ _ rfl _ rfl ?_; clear H; intro gb3 wx H)))
            go_roundw
            case rel => exact ⟨i + 1, sent, ws, 0, A, c, q, A1, c1, A2, c2, rfl, by go_num, by have := HIN.out; omega, HCS.out.next HI8.out, HL.out, hnc, hq1, hq2, H.subm _⟩
            case measure => have := HI8.out; simp [intOf] <;> omega
          · have g1 : ¬ (n : Int) = 0 := by omega
            have g2 : ((n : Int) == 0) = false := beq_eq_false_iff_ne.2 g1
            have PA := Lib.hid (fun W => (picked_any x1 (n : Int) W (hx1).1 (hx1).2 (by omega) (by omega)).mono (fun e w' h => (⟨h.1, h.2.symm⟩ : e = .returned (.int .i64 (pick x1 (n : Int))) ∧ w' = W)))
            have k_l := pick_lo x1 (n : Int) (by omega)
            have k_h := pick_hi x1 (n : Int) (by omega)
            obtain ⟨k_, hk_⟩ : ∃ x, pick x1 (n : Int) = x := ⟨_, rfl⟩
            rw [hk_] at PA k_l k_h
            clear hk_
            obtain ⟨k, rfl⟩ : ∃ x : Nat, k_ = (x : Int) := ⟨k_.toNat, by omega⟩
            have hkn : k < n := by omega
            have HKN := Lib.hid hkn
            have HKL := Lib.hid (show k < ws.length from by rw [HL.out]; exact hkn)
            obtain ⟨id, hid⟩ : ∃ id, (ws.getD k (0, 0)).1 = id := ⟨_, rfl⟩
            obtain ⟨body, hbody⟩ : ∃ b, (ws.getD k (0, 0)).2 = b := ⟨_, rfl⟩
            have HGK := Lib.hid (show (wEv 1 ws).getD k .zero0 = ⟨1, 1, id, body, 0, 0⟩ from by rw [wEv_get 1 ws k HKL.out, hid, hbody])
            obtain ⟨b9, off9, hA9, hb9, _⟩ := qevAt (H.get (evIt A (wEv 1 ws))) rfl (show k < (wEv 1 ws).length by rw [wEv_len]; exact HKL.out)
            subst hA9
            have QA := Lib.hid (fun W (hW : Reads W W.heap.size 6 (some ⟨b9, off9, none⟩) (wEv 1 ws).length (qevCells (wEv 1 ws))) => qevAt hW rfl (show k < (wEv 1 ws).length by rw [wEv_len]; exact HKL.out))
            rw [HGK.out] at QA
            have k0 : (0 : Int) ≤ (k : Int) := by omega
            have k1 : (k : Int) < (n : Int) := by omega
            have k2 : (n : Int) ≤ (c : Int) := by omega
            clear hb9 hkn
            obtain ⟨q', b, hst, hcs2, hck, hrm⟩ := HCS.out.step HI8.out k HKL.out
            rw [hid, hbody] at hst hck
            have HCS2 := Lib.hid hcs2
            have CD := Lib.hid (fun W J A1 c1 A2 c2 (H : St w W J) (h1 : Has J (rdIt q A1)) (h2 : Has J (lsIt q A2)) k1 k2 => (show Calls Try.prog 12 #[.agg (qArr q A1 c1 A2 c2), .agg #[.int .i64 1, .int .i64 1, .int .i64 id, .int .i64 body, .int .i64 0, .int .i64 0]] W (fun ed w' => ∃ B1 d1 B2 d2, ed = .returned (.tuple #[.agg (qArr q' B1 d1 B2 d2), .agg #[.int .i64 0, .int .i64 0, .int .i64 0, .int .i64 0], .bool b, .int .i64 0]) ∧ q'.rd.length ≤ d1 ∧ q'.ls.length ≤ d2 ∧ St w w' (rdIt q' B1 :: lsIt q' B2 :: J)) from by
              have h := do_st (h1 := h1) (h2 := h2) (w0 := w) (w := W) (I := J) q ⟨1, 1, id, body, 0, 0⟩ (A1 := A1) (A2 := A2) (c1 := c1) (c2 := c2) H HCS.out.inv hrm hck k1 k2
              rw [hst] at h
              exact h))
            clear hst hck hrm hcs2 hid hbody
            go_upto_region 27 with (first | (go_at_call 10; with_reducible refine (PKK.out _).mono ?_; rintro ed wy ⟨rfl, rfl⟩) | (first | ((with_reducible refine here_load ?_); first | refine ldR H rfl _ _ rfl rfl (by kernel_rfl) ?_ | refine ldS H rfl _ _ rfl rfl (by rfl) ?_ | refine ldSG H (by rfl) _ _ rfl rfl (by rfl) ?_ | refine ldRG H (by rfl) _ _ rfl rfl (by kernel_rfl) ?_) | ((with_reducible refine here_store ?_); first | (refine stR H rfl _ _ _ rfl rfl rfl (by rfl) (by rfl) (by kernel_rfl) ?_; clear H; intro wx H) | (refine stS H rfl _ _ _ rfl rfl _ rfl (by rfl) (by rfl) (by rfl) ?_; clear H; intro wx H)) | ((with_reducible refine here_alloc ?_); first | (refine wpList_alloc_st H rfl 37 rfl _ q_zero ?_; clear H; intro gq4 wx H) | (refine wpList_alloc_st H rfl 48 rfl _ ans_zero ?_; clear H; intro ga4 wx H) | (refine wpList_alloc_st H rfl 44 rfl _ ev_zero ?_; clear H; intro ge4 wx H) | (refine wpList_alloc_st H rfl 26 rfl _ cli_zero ?_; clear H; intro gl4 wx H)) | ((with_reducible refine here_box ?_); refine wpList_box_st H rfl _ _ rfl _ rfl ?_; clear H; intro gb4 wx H)))
            refine startS (H.subm (.bl gl0 26 (cl7 1 (sent : Int) (some ⟨b9, off9, none⟩) n c) :: .bl gq0 37 (qArr q A1 c1 A2 c2) :: evIt (some ⟨b9, off9, none⟩) (wEv 1 ws) :: rdIt q A1 :: lsIt q A2 :: [])) (by kernel_rfl) (fun HS => ?_)
            replace H := H.drew
            refine takeRow_st (i := 0) 37 _ rfl rfl rfl row_Queue (by kernel_rfl) (by kernel_rfl) (by kernel_rfl) (by kernel_rfl) (fun _ _ _ _ h => h) (by rfl) HS ?_
            (try simp only [Act.put, List.setIfInBounds_toArray, List.set_cons_zero, List.set_cons_succ])
            refine takeV (i := 1) (v := ?_) rfl (by kernel_rfl) (by kernel_rfl) (by kernel_rfl) (fun _ _ _ h => h) (by rfl) ?_ HS ?_
            rotate_left
            · (intro W hW; go_simp; try with_reducible rfl)
            (try simp only [Act.put, List.setIfInBounds_toArray, List.set_cons_zero, List.set_cons_succ])
            refine take1_st (i := 2) 23 _ rfl rfl rfl sc_Evs _ (by rfl) (by kernel_rfl) (by kernel_rfl) (by kernel_rfl) (fun _ _ _ _ h => h) (by rfl) HS ?_
            (try simp only [Act.put, List.setIfInBounds_toArray, List.set_cons_zero, List.set_cons_succ])
            refine takeMove (i := 3) rfl rfl _ (by rfl) (by kernel_rfl) (by kernel_rfl) (by kernel_rfl) (fun _ _ _ _ h => h) (by rfl) HS ?_
            (try simp only [Act.put, List.setIfInBounds_toArray, List.set_cons_zero, List.set_cons_succ])
            refine takeMove (i := 4) rfl rfl _ (by rfl) (by kernel_rfl) (by kernel_rfl) (by kernel_rfl) (fun _ _ _ _ h => h) (by rfl) HS ?_
            (try simp only [Act.put, List.setIfInBounds_toArray, List.set_cons_zero, List.set_cons_succ])
            refine takeV (i := 5) (v := ?_) rfl (by kernel_rfl) (by kernel_rfl) (by kernel_rfl) (fun _ _ _ h => h) (by rfl) ?_ HS ?_
            rotate_left
            · (intro W hW; go_simp; try with_reducible rfl)
            (try simp only [Act.put, List.setIfInBounds_toArray, List.set_cons_zero, List.set_cons_succ])
            refine takeV (i := 6) (v := ?_) rfl (by kernel_rfl) (by kernel_rfl) (by kernel_rfl) (fun _ _ _ h => h) (by rfl) ?_ HS ?_
            rotate_left
            · (intro W hW; go_simp; try with_reducible rfl)
            (try simp only [Act.put, List.setIfInBounds_toArray, List.set_cons_zero, List.set_cons_succ])
            refine takeV (i := 7) (v := .int .i64 x1) rfl (by kernel_rfl) (by kernel_rfl) (by kernel_rfl) (fun _ _ _ h => h) (by rfl) ?_ HS ?_
            · intro W hW
              have q1 := QX.out W hW.bel
              go_simp
              try with_reducible rfl
            (try simp only [Act.put, List.setIfInBounds_toArray, List.set_cons_zero, List.set_cons_succ])
            refine takeV (i := 8) (v := ?_) rfl (by kernel_rfl) (by kernel_rfl) (by kernel_rfl) (fun _ _ _ h => h) (by rfl) ?_ HS ?_
            rotate_left
            · (intro W hW; go_simp; try with_reducible rfl)
            (try simp only [Act.put, List.setIfInBounds_toArray, List.set_cons_zero, List.set_cons_succ])
            refine take1_st (i := 9) 23 _ rfl rfl rfl sc_Evs _ (by rfl) (by kernel_rfl) (by kernel_rfl) (by kernel_rfl) (fun _ _ _ _ h => h) (by rfl) HS ?_
            (try simp only [Act.put, List.setIfInBounds_toArray, List.set_cons_zero, List.set_cons_succ])
            refine takeV (i := 10) (v := ?_) rfl (by kernel_rfl) (by kernel_rfl) (by kernel_rfl) (fun _ _ _ h => h) (by rfl) ?_ HS ?_
            rotate_left
            · (intro W hW; go_simp; try with_reducible rfl)
            (try simp only [Act.put, List.setIfInBounds_toArray, List.set_cons_zero, List.set_cons_succ])
            refine branchH [11, 20, 21] (by kernel_rfl) (by kernel_rfl) (AllStep.cons ?_ (AllStep.cons ?_ (AllStep.cons ?_ AllStep.nil)))
            · refine stepH_do (i := 11) rfl (by rfl) ?_
              refine wp_call_st rfl Try.func10 (by kernel_rfl) (by kernel_rfl) _ ?_ ((PA.out _).mono ?_)
              · rfl
              rintro ed wy ⟨rfl, rfl⟩
              replace HS := HS.of H
              refine ⟨_, rfl, HS, ?_⟩
              (try simp only [Act.put, List.setIfInBounds_toArray, List.set_cons_zero, List.set_cons_succ])
              refine takeV (i := 12) (v := ?_) rfl (by kernel_rfl) (by kernel_rfl) (by kernel_rfl) (fun _ _ _ h => h) (by rfl) ?_ HS ?_
              rotate_left
              · (intro W hW; go_simp; try with_reducible rfl)
              (try simp only [Act.put, List.setIfInBounds_toArray, List.set_cons_zero, List.set_cons_succ])
              refine takeV (i := 13) (v := .agg #[.int .i64 1, .int .i64 1, .int .i64 id, .int .i64 body, .int .i64 0, .int .i64 0]) rfl (by kernel_rfl) (by kernel_rfl) (by kernel_rfl) (fun _ _ _ h => h) (by rfl) ?_ HS ?_
              · intro W hW
                obtain ⟨b7, off7, hA7, _, q0, q1, q2, q3, q4, q5⟩ := QA.out W (hW.get (evIt (some ⟨b9, off9, none⟩) (wEv 1 ws)))
                obtain ⟨rfl, rfl⟩ : b9 = b7 ∧ off9 = off7 := by cases hA7; exact ⟨rfl, rfl⟩
                try dsimp only at q0 q1 q2 q3 q4 q5
                go_simp
                try with_reducible rfl
              (try simp only [Act.put, List.setIfInBounds_toArray, List.set_cons_zero, List.set_cons_succ])
              refine branchH [14, 20, 21] (by kernel_rfl) (by kernel_rfl) (AllStep.cons ?_ (AllStep.cons ?_ (AllStep.cons ?_ AllStep.nil)))
              · refine stepH_do (i := 14) rfl (by rfl) ?_
                refine wp_call_st rfl Try.func12 (by kernel_rfl) (by kernel_rfl) _ ?_ ((CD.out _ _ A1 c1 A2 c2 H inferInstance inferInstance hq1 hq2).mono ?_)
                · rfl
                clear H
                rintro ed wy ⟨B1, d1, B2, d2, rfl, u1, u2, H⟩
                replace HS := HS.of H
                refine ⟨_, rfl, HS, ?_⟩
                (try simp only [Act.put, List.setIfInBounds_toArray, List.set_cons_zero, List.set_cons_succ])
                refine takeMove (i := 15) rfl rfl _ (by rfl) (by kernel_rfl) (by kernel_rfl) (by kernel_rfl) (fun _ _ _ _ h => h) (by rfl) HS ?_
                (try simp only [Act.put, List.setIfInBounds_toArray, List.set_cons_zero, List.set_cons_succ])
                refine takeExtract (i := 16) rfl rfl _ _ (by rfl) (by rfl) (by kernel_rfl) (by kernel_rfl) (by kernel_rfl) (fun _ _ _ _ h => h) (by rfl) HS ?_
                (try simp only [Act.put, List.setIfInBounds_toArray, List.set_cons_zero, List.set_cons_succ])
                refine takeExtract (i := 17) rfl rfl _ _ (by rfl) (by rfl) (by kernel_rfl) (by kernel_rfl) (by kernel_rfl) (fun _ _ _ _ h => h) (by rfl) HS ?_
                (try simp only [Act.put, List.setIfInBounds_toArray, List.set_cons_zero, List.set_cons_succ])
                refine takeExtract (i := 18) rfl rfl _ _ (by rfl) (by rfl) (by kernel_rfl) (by kernel_rfl) (by kernel_rfl) (fun _ _ _ _ h => h) (by rfl) HS ?_
                (try simp only [Act.put, List.setIfInBounds_toArray, List.set_cons_zero, List.set_cons_succ])
                refine takeExtract (i := 19) rfl rfl _ _ (by rfl) (by rfl) (by kernel_rfl) (by kernel_rfl) (by kernel_rfl) (fun _ _ _ _ h => h) (by rfl) HS ?_
                (try simp only [Act.put, List.setIfInBounds_toArray, List.set_cons_zero, List.set_cons_succ])
                refine branchH [20, 21] (by kernel_rfl) (by kernel_rfl) (AllStep.cons ?_ (AllStep.cons ?_ AllStep.nil))
                · refine stepH_do (i := 20) rfl (by rfl) ?_
                  refine wp_alloc_st H 37 rfl _ q_zero ?_
                  clear H
                  intro gq5 wx H
                  replace HS := HS.of H
                  refine ⟨HS, ?_⟩
                  (try simp only [Act.put, List.setIfInBounds_toArray, List.set_cons_zero, List.set_cons_succ])
                  refine branchH [21] (by kernel_rfl) (by kernel_rfl) (AllStep.cons ?_ AllStep.nil)
                  refine stepH_do (i := 21) rfl (by rfl) ?_
                  refine wp_alloc_st H 48 rfl _ ans_zero ?_
                  clear H
                  intro ga5 wx H
                  replace HS := HS.of H
                  refine ⟨HS, ?_⟩
                  (try simp only [Act.put, List.setIfInBounds_toArray, List.set_cons_zero, List.set_cons_succ])
                  refine branchH [22] (by kernel_rfl) (by kernel_rfl) (AllStep.cons ?_ AllStep.nil)
                  refine stepH_do (i := 22) rfl (by rfl) ?_
                  refine wp_store_st H 37 _ _ rfl rfl rfl (by kernel_rfl) (by rfl) (by kernel_rfl) ?_
                  clear H
                  intro wx H
                  replace HS := HS.of H
                  refine ⟨HS, ?_⟩
                  (try simp only [Act.put])
                  refine branchH [23] (by kernel_rfl) (by kernel_rfl) (AllStep.cons ?_ AllStep.nil)
                  refine stepH_do (i := 23) rfl (by rfl) ?_
                  refine wp_store_st H 48 _ _ rfl rfl rfl (by kernel_rfl) (by rfl) (by kernel_rfl) ?_
                  clear H
                  intro wx H
                  replace HS := HS.of H
                  refine ⟨HS, ?_⟩
                  (try simp only [Act.put])
                  refine takeAssign (i := 24) rfl rfl _ (by rfl) (by kernel_rfl) (by kernel_rfl) (by kernel_rfl) (fun _ _ _ _ h => h) (by rfl) HS ?_
                  (try simp only [Act.put, List.setIfInBounds_toArray, List.set_cons_zero, List.set_cons_succ])
                  refine takeAssign (i := 25) rfl rfl _ (by rfl) (by kernel_rfl) (by kernel_rfl) (by kernel_rfl) (fun _ _ _ _ h => h) (by rfl) HS ?_
                  (try simp only [Act.put, List.setIfInBounds_toArray, List.set_cons_zero, List.set_cons_succ])
                  refine doneH (by kernel_rfl) ?_
                  go_wp2_with (first | ((with_reducible refine here_load ?_); first | refine ldR H rfl _ _ rfl rfl (by kernel_rfl) ?_ | refine ldS H rfl _ _ rfl rfl (by rfl) ?_ | refine ldSG H (by rfl) _ _ rfl rfl (by rfl) ?_ | refine ldRG H (by rfl) _ _ rfl rfl (by kernel_rfl) ?_) | ((with_reducible refine here_store ?_); first | (refine stR H rfl _ _ _ rfl rfl rfl (by rfl) (by rfl) (by kernel_rfl) ?_; clear H; intro wx H) | (refine stS H rfl _ _ _ rfl rfl _ rfl (by rfl) (by rfl) (by rfl) ?_; clear H; intro wx H)) | ((with_reducible refine here_alloc ?_); first | (refine wpList_alloc_st H rfl 37 rfl _ q_zero ?_; clear H; intro gq6 wx H) | (refine wpList_alloc_st H rfl 48 rfl _ ans_zero ?_; clear H; intro ga6 wx H) | (refine wpList_alloc_st H rfl 44 rfl _ ev_zero ?_; clear H; intro ge6 wx H) | (refine wpList_alloc_st H rfl 26 rfl _ cli_zero ?_; clear H; intro gl6 wx H)) | ((with_reducible refine here_box ?_); refine wpList_box_st H rfl _ _ rfl _ rfl ?_; clear H; intro gb6 wx H))
                  go_roundw
                  case rel => exact ⟨i + 1, sent, ws, n, some ⟨b9, off9, none⟩, c, q', B1, d1, B2, d2, rfl, by go_num, by have := HIN.out; omega, HCS2.out, HL.out, hnc, u1, u2, H.subm _⟩
                  case measure => have := HI8.out; simp [intOf] <;> omega
                · refine stepH_do (i := 21) rfl (by rfl) ?_
                  refine wp_alloc_st H 48 rfl _ ans_zero ?_
                  clear H
                  intro ga5 wx H
                  replace HS := HS.of H
                  refine ⟨HS, ?_⟩
                  (try simp only [Act.put, List.setIfInBounds_toArray, List.set_cons_zero, List.set_cons_succ])
                  refine branchH [20] (by kernel_rfl) (by kernel_rfl) (AllStep.cons ?_ AllStep.nil)
                  refine stepH_do (i := 20) rfl (by rfl) ?_
                  refine wp_alloc_st H 37 rfl _ q_zero ?_
                  clear H
                  intro gq5 wx H
                  replace HS := HS.of H
                  refine ⟨HS, ?_⟩
                  (try simp only [Act.put, List.setIfInBounds_toArray, List.set_cons_zero, List.set_cons_succ])
                  refine branchH [22] (by kernel_rfl) (by kernel_rfl) (AllStep.cons ?_ AllStep.nil)
                  refine stepH_do (i := 22) rfl (by rfl) ?_
                  refine wp_store_st H 37 _ _ rfl rfl rfl (by kernel_rfl) (by rfl) (by kernel_rfl) ?_
                  clear H
                  intro wx H
                  replace HS := HS.of H
                  refine ⟨HS, ?_⟩
                  (try simp only [Act.put])
                  refine branchH [23] (by kernel_rfl) (by kernel_rfl) (AllStep.cons ?_ AllStep.nil)
                  refine stepH_do (i := 23) rfl (by rfl) ?_
                  refine wp_store_st H 48 _ _ rfl rfl rfl (by kernel_rfl) (by rfl) (by kernel_rfl) ?_
                  clear H
                  intro wx H
                  replace HS := HS.of H
                  refine ⟨HS, ?_⟩
                  (try simp only [Act.put])
                  refine takeAssign (i := 24) rfl rfl _ (by rfl) (by kernel_rfl) (by kernel_rfl) (by kernel_rfl) (fun _ _ _ _ h => h) (by rfl) HS ?_
                  (try simp only [Act.put, List.setIfInBounds_toArray, List.set_cons_zero, List.set_cons_succ])
                  refine takeAssign (i := 25) rfl rfl _ (by rfl) (by kernel_rfl) (by kernel_rfl) (by kernel_rfl) (fun _ _ _ _ h => h) (by rfl) HS ?_
                  (try simp only [Act.put, List.setIfInBounds_toArray, List.set_cons_zero, List.set_cons_succ])
                  refine doneH (by kernel_rfl) ?_
                  go_wp2_with (first | ((with_reducible refine here_load ?_); first | refine ldR H rfl _ _ rfl rfl (by kernel_rfl) ?_ | refine ldS H rfl _ _ rfl rfl (by rfl) ?_ | refine ldSG H (by rfl) _ _ rfl rfl (by rfl) ?_ | refine ldRG H (by rfl) _ _ rfl rfl (by kernel_rfl) ?_) | ((with_reducible refine here_store ?_); first | (refine stR H rfl _ _ _ rfl rfl rfl (by rfl) (by rfl) (by kernel_rfl) ?_; clear H; intro wx H) | (refine stS H rfl _ _ _ rfl rfl _ rfl (by rfl) (by rfl) (by rfl) ?_; clear H; intro wx H)) | ((with_reducible refine here_alloc ?_); first | (refine wpList_alloc_st H rfl 37 rfl _ q_zero ?_; clear H; intro gq6 wx H) | (refine wpList_alloc_st H rfl 48 rfl _ ans_zero ?_; clear H; intro ga6 wx H) | (refine wpList_alloc_st H rfl 44 rfl _ ev_zero ?_; clear H; intro ge6 wx H) | (refine wpList_alloc_st H rfl 26 rfl _ cli_zero ?_; clear H; intro gl6 wx H)) | ((with_reducible refine here_box ?_); refine wpList_box_st H rfl _ _ rfl _ rfl ?_; clear H; intro gb6 wx H))
                  go_roundw
                  case rel => exact ⟨i + 1, sent, ws, n, some ⟨b9, off9, none⟩, c, q', B1, d1, B2, d2, rfl, by go_num, by have := HIN.out; omega, HCS2.out, HL.out, hnc, u1, u2, H.subm _⟩
                  case measure => have := HI8.out; simp [intOf] <;> omega
              · refine stepH_do (i := 20) rfl (by rfl) ?_
                refine wp_alloc_st H 37 rfl _ q_zero ?_
                clear H
                intro gq5 wx H
                replace HS := HS.of H
                refine ⟨HS, ?_⟩
                (try simp only [Act.put, List.setIfInBounds_toArray, List.set_cons_zero, List.set_cons_succ])
                refine branchH [14, 21] (by kernel_rfl) (by kernel_rfl) (AllStep.cons ?_ (AllStep.cons ?_ AllStep.nil))
                · refine stepH_do (i := 14) rfl (by rfl) ?_
                  refine wp_call_st rfl Try.func12 (by kernel_rfl) (by kernel_rfl) _ ?_ ((CD.out _ _ A1 c1 A2 c2 H inferInstance inferInstance hq1 hq2).mono ?_)
                  · rfl
                  clear H
                  rintro ed wy ⟨B1, d1, B2, d2, rfl, u1, u2, H⟩
                  replace HS := HS.of H
                  refine ⟨_, rfl, HS, ?_⟩
                  (try simp only [Act.put, List.setIfInBounds_toArray, List.set_cons_zero, List.set_cons_succ])
                  refine takeMove (i := 15) rfl rfl _ (by rfl) (by kernel_rfl) (by kernel_rfl) (by kernel_rfl) (fun _ _ _ _ h => h) (by rfl) HS ?_
                  (try simp only [Act.put, List.setIfInBounds_toArray, List.set_cons_zero, List.set_cons_succ])
                  refine takeExtract (i := 16) rfl rfl _ _ (by rfl) (by rfl) (by kernel_rfl) (by kernel_rfl) (by kernel_rfl) (fun _ _ _ _ h => h) (by rfl) HS ?_
                  (try simp only [Act.put, List.setIfInBounds_toArray, List.set_cons_zero, List.set_cons_succ])
                  refine takeExtract (i := 17) rfl rfl _ _ (by rfl) (by rfl) (by kernel_rfl) (by kernel_rfl) (by kernel_rfl) (fun _ _ _ _ h => h) (by rfl) HS ?_
                  (try simp only [Act.put, List.setIfInBounds_toArray, List.set_cons_zero, List.set_cons_succ])
                  refine takeExtract (i := 18) rfl rfl _ _ (by rfl) (by rfl) (by kernel_rfl) (by kernel_rfl) (by kernel_rfl) (fun _ _ _ _ h => h) (by rfl) HS ?_
                  (try simp only [Act.put, List.setIfInBounds_toArray, List.set_cons_zero, List.set_cons_succ])
                  refine takeExtract (i := 19) rfl rfl _ _ (by rfl) (by rfl) (by kernel_rfl) (by kernel_rfl) (by kernel_rfl) (fun _ _ _ _ h => h) (by rfl) HS ?_
                  (try simp only [Act.put, List.setIfInBounds_toArray, List.set_cons_zero, List.set_cons_succ])
                  refine branchH [21] (by kernel_rfl) (by kernel_rfl) (AllStep.cons ?_ AllStep.nil)
                  refine stepH_do (i := 21) rfl (by rfl) ?_
                  refine wp_alloc_st H 48 rfl _ ans_zero ?_
                  clear H
                  intro ga5 wx H
                  replace HS := HS.of H
                  refine ⟨HS, ?_⟩
                  (try simp only [Act.put, List.setIfInBounds_toArray, List.set_cons_zero, List.set_cons_succ])
                  refine branchH [22] (by kernel_rfl) (by kernel_rfl) (AllStep.cons ?_ AllStep.nil)
                  refine stepH_do (i := 22) rfl (by rfl) ?_
                  refine wp_store_st H 37 _ _ rfl rfl rfl (by kernel_rfl) (by rfl) (by kernel_rfl) ?_
                  clear H
                  intro wx H
                  replace HS := HS.of H
                  refine ⟨HS, ?_⟩
                  (try simp only [Act.put])
                  refine branchH [23] (by kernel_rfl) (by kernel_rfl) (AllStep.cons ?_ AllStep.nil)
                  refine stepH_do (i := 23) rfl (by rfl) ?_
                  refine wp_store_st H 48 _ _ rfl rfl rfl (by kernel_rfl) (by rfl) (by kernel_rfl) ?_
                  clear H
                  intro wx H
                  replace HS := HS.of H
                  refine ⟨HS, ?_⟩
                  (try simp only [Act.put])
                  refine takeAssign (i := 24) rfl rfl _ (by rfl) (by kernel_rfl) (by kernel_rfl) (by kernel_rfl) (fun _ _ _ _ h => h) (by rfl) HS ?_
                  (try simp only [Act.put, List.setIfInBounds_toArray, List.set_cons_zero, List.set_cons_succ])
                  refine takeAssign (i := 25) rfl rfl _ (by rfl) (by kernel_rfl) (by kernel_rfl) (by kernel_rfl) (fun _ _ _ _ h => h) (by rfl) HS ?_
                  (try simp only [Act.put, List.setIfInBounds_toArray, List.set_cons_zero, List.set_cons_succ])
                  refine doneH (by kernel_rfl) ?_
                  go_wp2_with (first | ((with_reducible refine here_load ?_); first | refine ldR H rfl _ _ rfl rfl (by kernel_rfl) ?_ | refine ldS H rfl _ _ rfl rfl (by rfl) ?_ | refine ldSG H (by rfl) _ _ rfl rfl (by rfl) ?_ | refine ldRG H (by rfl) _ _ rfl rfl (by kernel_rfl) ?_) | ((with_reducible refine here_store ?_); first | (refine stR H rfl _ _ _ rfl rfl rfl (by rfl) (by rfl) (by kernel_rfl) ?_; clear H; intro wx H) | (refine stS H rfl _ _ _ rfl rfl _ rfl (by rfl) (by rfl) (by rfl) ?_; clear H; intro wx H)) | ((with_reducible refine here_alloc ?_); first | (refine wpList_alloc_st H rfl 37 rfl _ q_zero ?_; clear H; intro gq6 wx H) | (refine wpList_alloc_st H rfl 48 rfl _ ans_zero ?_; clear H; intro ga6 wx H) | (refine wpList_alloc_st H rfl 44 rfl _ ev_zero ?_; clear H; intro ge6 wx H) | (refine wpList_alloc_st H rfl 26 rfl _ cli_zero ?_; clear H; intro gl6 wx H)) | ((with_reducible refine here_box ?_); refine wpList_box_st H rfl _ _ rfl _ rfl ?_; clear H; intro gb6 wx H))
                  go_roundw
                  case rel => exact ⟨i + 1, sent, ws, n, some ⟨b9, off9, none⟩, c, q', B1, d1, B2, d2, rfl, by go_num, by have := HIN.out; omega, HCS2.out, HL.out, hnc, u1, u2, H.subm _⟩
                  case measure => have := HI8.out; simp [intOf] <;> omega
                · refine stepH_do (i := 21) rfl (by rfl) ?_
                  refine wp_alloc_st H 48 rfl _ ans_zero ?_
                  clear H
                  intro ga5 wx H
                  replace HS := HS.of H
                  refine ⟨HS, ?_⟩
                  (try simp only [Act.put, List.setIfInBounds_toArray, List.set_cons_zero, List.set_cons_succ])
                  refine branchH [14] (by kernel_rfl) (by kernel_rfl) (AllStep.cons ?_ AllStep.nil)
                  refine stepH_do (i := 14) rfl (by rfl) ?_
                  refine wp_call_st rfl Try.func12 (by kernel_rfl) (by kernel_rfl) _ ?_ ((CD.out _ _ A1 c1 A2 c2 H inferInstance inferInstance hq1 hq2).mono ?_)
                  · rfl
                  clear H
                  rintro ed wy ⟨B1, d1, B2, d2, rfl, u1, u2, H⟩
                  replace HS := HS.of H
                  refine ⟨_, rfl, HS, ?_⟩
                  (try simp only [Act.put, List.setIfInBounds_toArray, List.set_cons_zero, List.set_cons_succ])
                  refine takeMove (i := 15) rfl rfl _ (by rfl) (by kernel_rfl) (by kernel_rfl) (by kernel_rfl) (fun _ _ _ _ h => h) (by rfl) HS ?_
                  (try simp only [Act.put, List.setIfInBounds_toArray, List.set_cons_zero, List.set_cons_succ])
                  refine takeExtract (i := 16) rfl rfl _ _ (by rfl) (by rfl) (by kernel_rfl) (by kernel_rfl) (by kernel_rfl) (fun _ _ _ _ h => h) (by rfl) HS ?_
                  (try simp only [Act.put, List.setIfInBounds_toArray, List.set_cons_zero, List.set_cons_succ])
                  refine takeExtract (i := 17) rfl rfl _ _ (by rfl) (by rfl) (by kernel_rfl) (by kernel_rfl) (by kernel_rfl) (fun _ _ _ _ h => h) (by rfl) HS ?_
                  (try simp only [Act.put, List.setIfInBounds_toArray, List.set_cons_zero, List.set_cons_succ])
                  refine takeExtract (i := 18) rfl rfl _ _ (by rfl) (by rfl) (by kernel_rfl) (by kernel_rfl) (by kernel_rfl) (fun _ _ _ _ h => h) (by rfl) HS ?_
                  (try simp only [Act.put, List.setIfInBounds_toArray, List.set_cons_zero, List.set_cons_succ])
                  refine takeExtract (i := 19) rfl rfl _ _ (by rfl) (by rfl) (by kernel_rfl) (by kernel_rfl) (by kernel_rfl) (fun _ _ _ _ h => h) (by rfl) HS ?_
                  (try simp only [Act.put, List.setIfInBounds_toArray, List.set_cons_zero, List.set_cons_succ])
                  refine branchH [22] (by kernel_rfl) (by kernel_rfl) (AllStep.cons ?_ AllStep.nil)
                  refine stepH_do (i := 22) rfl (by rfl) ?_
                  refine wp_store_st H 37 _ _ rfl rfl rfl (by kernel_rfl) (by rfl) (by kernel_rfl) ?_
                  clear H
                  intro wx H
                  replace HS := HS.of H
                  refine ⟨HS, ?_⟩
                  (try simp only [Act.put])
                  refine branchH [23] (by kernel_rfl) (by kernel_rfl) (AllStep.cons ?_ AllStep.nil)
                  refine stepH_do (i := 23) rfl (by rfl) ?_
                  refine wp_store_st H 48 _ _ rfl rfl rfl (by kernel_rfl) (by rfl) (by kernel_rfl) ?_
                  clear H
                  intro wx H
                  replace HS := HS.of H
                  refine ⟨HS, ?_⟩
                  (try simp only [Act.put])
                  refine takeAssign (i := 24) rfl rfl _ (by rfl) (by kernel_rfl) (by kernel_rfl) (by kernel_rfl) (fun _ _ _ _ h => h) (by rfl) HS ?_
                  (try simp only [Act.put, List.setIfInBounds_toArray, List.set_cons_zero, List.set_cons_succ])
                  refine takeAssign (i := 25) rfl rfl _ (by rfl) (by kernel_rfl) (by kernel_rfl) (by kernel_rfl) (fun _ _ _ _ h => h) (by rfl) HS ?_
                  (try simp only [Act.put, List.setIfInBounds_toArray, List.set_cons_zero, List.set_cons_succ])
                  refine doneH (by kernel_rfl) ?_
                  go_wp2_with (first | ((with_reducible refine here_load ?_); first | refine ldR H rfl _ _ rfl rfl (by kernel_rfl) ?_ | refine ldS H rfl _ _ rfl rfl (by rfl) ?_ | refine ldSG H (by rfl) _ _ rfl rfl (by rfl) ?_ | refine ldRG H (by rfl) _ _ rfl rfl (by kernel_rfl) ?_) | ((with_reducible refine here_store ?_); first | (refine stR H rfl _ _ _ rfl rfl rfl (by rfl) (by rfl) (by kernel_rfl) ?_; clear H; intro wx H) | (refine stS H rfl _ _ _ rfl rfl _ rfl (by rfl) (by rfl) (by rfl) ?_; clear H; intro wx H)) | ((with_reducible refine here_alloc ?_); first | (refine wpList_alloc_st H rfl 37 rfl _ q_zero ?_; clear H; intro gq6 wx H) | (refine wpList_alloc_st H rfl 48 rfl _ ans_zero ?_; clear H; intro ga6 wx H) | (refine wpList_alloc_st H rfl 44 rfl _ ev_zero ?_; clear H; intro ge6 wx H) | (refine wpList_alloc_st H rfl 26 rfl _ cli_zero ?_; clear H; intro gl6 wx H)) | ((with_reducible refine here_box ?_); refine wpList_box_st H rfl _ _ rfl _ rfl ?_; clear H; intro gb6 wx H))
                  go_roundw
                  case rel => exact ⟨i + 1, sent, ws, n, some ⟨b9, off9, none⟩, c, q', B1, d1, B2, d2, rfl, by go_num, by have := HIN.out; omega, HCS2.out, HL.out, hnc, u1, u2, H.subm _⟩
                  case measure => have := HI8.out; simp [intOf] <;> omega
              · refine stepH_do (i := 21) rfl (by rfl) ?_
                refine wp_alloc_st H 48 rfl _ ans_zero ?_
                clear H
                intro ga5 wx H
                replace HS := HS.of H
                refine ⟨HS, ?_⟩
                (try simp only [Act.put, List.setIfInBounds_toArray, List.set_cons_zero, List.set_cons_succ])
                refine branchH [14, 20] (by kernel_rfl) (by kernel_rfl) (AllStep.cons ?_ (AllStep.cons ?_ AllStep.nil))
                · refine stepH_do (i := 14) rfl (by rfl) ?_
                  refine wp_call_st rfl Try.func12 (by kernel_rfl) (by kernel_rfl) _ ?_ ((CD.out _ _ A1 c1 A2 c2 H inferInstance inferInstance hq1 hq2).mono ?_)
                  · rfl
                  clear H
                  rintro ed wy ⟨B1, d1, B2, d2, rfl, u1, u2, H⟩
                  replace HS := HS.of H
                  refine ⟨_, rfl, HS, ?_⟩
                  (try simp only [Act.put, List.setIfInBounds_toArray, List.set_cons_zero, List.set_cons_succ])
                  refine takeMove (i := 15) rfl rfl _ (by rfl) (by kernel_rfl) (by kernel_rfl) (by kernel_rfl) (fun _ _ _ _ h => h) (by rfl) HS ?_
                  (try simp only [Act.put, List.setIfInBounds_toArray, List.set_cons_zero, List.set_cons_succ])
                  refine takeExtract (i := 16) rfl rfl _ _ (by rfl) (by rfl) (by kernel_rfl) (by kernel_rfl) (by kernel_rfl) (fun _ _ _ _ h => h) (by rfl) HS ?_
                  (try simp only [Act.put, List.setIfInBounds_toArray, List.set_cons_zero, List.set_cons_succ])
                  refine takeExtract (i := 17) rfl rfl _ _ (by rfl) (by rfl) (by kernel_rfl) (by kernel_rfl) (by kernel_rfl) (fun _ _ _ _ h => h) (by rfl) HS ?_
                  (try simp only [Act.put, List.setIfInBounds_toArray, List.set_cons_zero, List.set_cons_succ])
                  refine takeExtract (i := 18) rfl rfl _ _ (by rfl) (by rfl) (by kernel_rfl) (by kernel_rfl) (by kernel_rfl) (fun _ _ _ _ h => h) (by rfl) HS ?_
                  (try simp only [Act.put, List.setIfInBounds_toArray, List.set_cons_zero, List.set_cons_succ])
                  refine takeExtract (i := 19) rfl rfl _ _ (by rfl) (by rfl) (by kernel_rfl) (by kernel_rfl) (by kernel_rfl) (fun _ _ _ _ h => h) (by rfl) HS ?_
                  (try simp only [Act.put, List.setIfInBounds_toArray, List.set_cons_zero, List.set_cons_succ])
                  refine branchH [20] (by kernel_rfl) (by kernel_rfl) (AllStep.cons ?_ AllStep.nil)
                  refine stepH_do (i := 20) rfl (by rfl) ?_
                  refine wp_alloc_st H 37 rfl _ q_zero ?_
                  clear H
                  intro gq5 wx H
                  replace HS := HS.of H
                  refine ⟨HS, ?_⟩
                  (try simp only [Act.put, List.setIfInBounds_toArray, List.set_cons_zero, List.set_cons_succ])
                  refine branchH [22] (by kernel_rfl) (by kernel_rfl) (AllStep.cons ?_ AllStep.nil)
                  refine stepH_do (i := 22) rfl (by rfl) ?_
                  refine wp_store_st H 37 _ _ rfl rfl rfl (by kernel_rfl) (by rfl) (by kernel_rfl) ?_
                  clear H
                  intro wx H
                  replace HS := HS.of H
                  refine ⟨HS, ?_⟩
                  (try simp only [Act.put])
                  refine branchH [23] (by kernel_rfl) (by kernel_rfl) (AllStep.cons ?_ AllStep.nil)
                  refine stepH_do (i := 23) rfl (by rfl) ?_
                  refine wp_store_st H 48 _ _ rfl rfl rfl (by kernel_rfl) (by rfl) (by kernel_rfl) ?_
                  clear H
                  intro wx H
                  replace HS := HS.of H
                  refine ⟨HS, ?_⟩
                  (try simp only [Act.put])
                  refine takeAssign (i := 24) rfl rfl _ (by rfl) (by kernel_rfl) (by kernel_rfl) (by kernel_rfl) (fun _ _ _ _ h => h) (by rfl) HS ?_
                  (try simp only [Act.put, List.setIfInBounds_toArray, List.set_cons_zero, List.set_cons_succ])
                  refine takeAssign (i := 25) rfl rfl _ (by rfl) (by kernel_rfl) (by kernel_rfl) (by kernel_rfl) (fun _ _ _ _ h => h) (by rfl) HS ?_
                  (try simp only [Act.put, List.setIfInBounds_toArray, List.set_cons_zero, List.set_cons_succ])
                  refine doneH (by kernel_rfl) ?_
                  go_wp2_with (first | ((with_reducible refine here_load ?_); first | refine ldR H rfl _ _ rfl rfl (by kernel_rfl) ?_ | refine ldS H rfl _ _ rfl rfl (by rfl) ?_ | refine ldSG H (by rfl) _ _ rfl rfl (by rfl) ?_ | refine ldRG H (by rfl) _ _ rfl rfl (by kernel_rfl) ?_) | ((with_reducible refine here_store ?_); first | (refine stR H rfl _ _ _ rfl rfl rfl (by rfl) (by rfl) (by kernel_rfl) ?_; clear H; intro wx H) | (refine stS H rfl _ _ _ rfl rfl _ rfl (by rfl) (by rfl) (by rfl) ?_; clear H; intro wx H)) | ((with_reducible refine here_alloc ?_); first | (refine wpList_alloc_st H rfl 37 rfl _ q_zero ?_; clear H; intro gq6 wx H) | (refine wpList_alloc_st H rfl 48 rfl _ ans_zero ?_; clear H; intro ga6 wx H) | (refine wpList_alloc_st H rfl 44 rfl _ ev_zero ?_; clear H; intro ge6 wx H) | (refine wpList_alloc_st H rfl 26 rfl _ cli_zero ?_; clear H; intro gl6 wx H)) | ((with_reducible refine here_box ?_); refine wpList_box_st H rfl _ _ rfl _ rfl ?_; clear H; intro gb6 wx H))
                  go_roundw
                  case rel => exact ⟨i + 1, sent, ws, n, some ⟨b9, off9, none⟩, c, q', B1, d1, B2, d2, rfl, by go_num, by have := HIN.out; omega, HCS2.out, HL.out, hnc, u1, u2, H.subm _⟩
                  case measure => have := HI8.out; simp [intOf] <;> omega
                · refine stepH_do (i := 20) rfl (by rfl) ?_
                  refine wp_alloc_st H 37 rfl _ q_zero ?_
                  clear H
                  intro gq5 wx H
                  replace HS := HS.of H
                  refine ⟨HS, ?_⟩
                  (try simp only [Act.put, List.setIfInBounds_toArray, List.set_cons_zero, List.set_cons_succ])
                  refine branchH [14] (by kernel_rfl) (by kernel_rfl) (AllStep.cons ?_ AllStep.nil)
                  refine stepH_do (i := 14) rfl (by rfl) ?_
                  refine wp_call_st rfl Try.func12 (by kernel_rfl) (by kernel_rfl) _ ?_ ((CD.out _ _ A1 c1 A2 c2 H inferInstance inferInstance hq1 hq2).mono ?_)
                  · rfl
                  clear H
                  rintro ed wy ⟨B1, d1, B2, d2, rfl, u1, u2, H⟩
                  replace HS := HS.of H
                  refine ⟨_, rfl, HS, ?_⟩
                  (try simp only [Act.put, List.setIfInBounds_toArray, List.set_cons_zero, List.set_cons_succ])
                  refine takeMove (i := 15) rfl rfl _ (by rfl) (by kernel_rfl) (by kernel_rfl) (by kernel_rfl) (fun _ _ _ _ h => h) (by rfl) HS ?_
                  (try simp only [Act.put, List.setIfInBounds_toArray, List.set_cons_zero, List.set_cons_succ])
                  refine takeExtract (i := 16) rfl rfl _ _ (by rfl) (by rfl) (by kernel_rfl) (by kernel_rfl) (by kernel_rfl) (fun _ _ _ _ h => h) (by rfl) HS ?_
                  (try simp only [Act.put, List.setIfInBounds_toArray, List.set_cons_zero, List.set_cons_succ])
                  refine takeExtract (i := 17) rfl rfl _ _ (by rfl) (by rfl) (by kernel_rfl) (by kernel_rfl) (by kernel_rfl) (fun _ _ _ _ h => h) (by rfl) HS ?_
                  (try simp only [Act.put, List.setIfInBounds_toArray, List.set_cons_zero, List.set_cons_succ])
                  refine takeExtract (i := 18) rfl rfl _ _ (by rfl) (by rfl) (by kernel_rfl) (by kernel_rfl) (by kernel_rfl) (fun _ _ _ _ h => h) (by rfl) HS ?_
                  (try simp only [Act.put, List.setIfInBounds_toArray, List.set_cons_zero, List.set_cons_succ])
                  refine takeExtract (i := 19) rfl rfl _ _ (by rfl) (by rfl) (by kernel_rfl) (by kernel_rfl) (by kernel_rfl) (fun _ _ _ _ h => h) (by rfl) HS ?_
                  (try simp only [Act.put, List.setIfInBounds_toArray, List.set_cons_zero, List.set_cons_succ])
                  refine branchH [22] (by kernel_rfl) (by kernel_rfl) (AllStep.cons ?_ AllStep.nil)
                  refine stepH_do (i := 22) rfl (by rfl) ?_
                  refine wp_store_st H 37 _ _ rfl rfl rfl (by kernel_rfl) (by rfl) (by kernel_rfl) ?_
                  clear H
                  intro wx H
                  replace HS := HS.of H
                  refine ⟨HS, ?_⟩
                  (try simp only [Act.put])
                  refine branchH [23] (by kernel_rfl) (by kernel_rfl) (AllStep.cons ?_ AllStep.nil)
                  refine stepH_do (i := 23) rfl (by rfl) ?_
                  refine wp_store_st H 48 _ _ rfl rfl rfl (by kernel_rfl) (by rfl) (by kernel_rfl) ?_
                  clear H
                  intro wx H
                  replace HS := HS.of H
                  refine ⟨HS, ?_⟩
                  (try simp only [Act.put])
                  refine takeAssign (i := 24) rfl rfl _ (by rfl) (by kernel_rfl) (by kernel_rfl) (by kernel_rfl) (fun _ _ _ _ h => h) (by rfl) HS ?_
                  (try simp only [Act.put, List.setIfInBounds_toArray, List.set_cons_zero, List.set_cons_succ])
                  refine takeAssign (i := 25) rfl rfl _ (by rfl) (by kernel_rfl) (by kernel_rfl) (by kernel_rfl) (fun _ _ _ _ h => h) (by rfl) HS ?_
                  (try simp only [Act.put, List.setIfInBounds_toArray, List.set_cons_zero, List.set_cons_succ])
                  refine doneH (by kernel_rfl) ?_
                  go_wp2_with (first | ((with_reducible refine here_load ?_); first | refine ldR H rfl _ _ rfl rfl (by kernel_rfl) ?_ | refine ldS H rfl _ _ rfl rfl (by rfl) ?_ | refine ldSG H (by rfl) _ _ rfl rfl (by rfl) ?_ | refine ldRG H (by rfl) _ _ rfl rfl (by kernel_rfl) ?_) | ((with_reducible refine here_store ?_); first | (refine stR H rfl _ _ _ rfl rfl rfl (by rfl) (by rfl) (by kernel_rfl) ?_; clear H; intro wx H) | (refine stS H rfl _ _ _ rfl rfl _ rfl (by rfl) (by rfl) (by rfl) ?_; clear H; intro wx H)) | ((with_reducible refine here_alloc ?_); first | (refine wpList_alloc_st H rfl 37 rfl _ q_zero ?_; clear H; intro gq6 wx H) | (refine wpList_alloc_st H rfl 48 rfl _ ans_zero ?_; clear H; intro ga6 wx H) | (refine wpList_alloc_st H rfl 44 rfl _ ev_zero ?_; clear H; intro ge6 wx H) | (refine wpList_alloc_st H rfl 26 rfl _ cli_zero ?_; clear H; intro gl6 wx H)) | ((with_reducible refine here_box ?_); refine wpList_box_st H rfl _ _ rfl _ rfl ?_; clear H; intro gb6 wx H))
                  go_roundw
                  case rel => exact ⟨i + 1, sent, ws, n, some ⟨b9, off9, none⟩, c, q', B1, d1, B2, d2, rfl, by go_num, by have := HIN.out; omega, HCS2.out, HL.out, hnc, u1, u2, H.subm _⟩
                  case measure => have := HI8.out; simp [intOf] <;> omega
            · refine stepH_do (i := 20) rfl (by rfl) ?_
              refine wp_alloc_st H 37 rfl _ q_zero ?_
              clear H
              intro gq5 wx H
              replace HS := HS.of H
              refine ⟨HS, ?_⟩
              (try simp only [Act.put, List.setIfInBounds_toArray, List.set_cons_zero, List.set_cons_succ])
              refine branchH [11, 21] (by kernel_rfl) (by kernel_rfl) (AllStep.cons ?_ (AllStep.cons ?_ AllStep.nil))
              · refine stepH_do (i := 11) rfl (by rfl) ?_
                refine wp_call_st rfl Try.func10 (by kernel_rfl) (by kernel_rfl) _ ?_ ((PA.out _).mono ?_)
                · rfl
                rintro ed wy ⟨rfl, rfl⟩
                replace HS := HS.of H
                refine ⟨_, rfl, HS, ?_⟩
                (try simp only [Act.put, List.setIfInBounds_toArray, List.set_cons_zero, List.set_cons_succ])
                refine takeV (i := 12) (v := ?_) rfl (by kernel_rfl) (by kernel_rfl) (by kernel_rfl) (fun _ _ _ h => h) (by rfl) ?_ HS ?_
                rotate_left
                · (intro W hW; go_simp; try with_reducible rfl)
                (try simp only [Act.put, List.setIfInBounds_toArray, List.set_cons_zero, List.set_cons_succ])
                refine takeV (i := 13) (v := .agg #[.int .i64 1, .int .i64 1, .int .i64 id, .int .i64 body, .int .i64 0, .int .i64 0]) rfl (by kernel_rfl) (by kernel_rfl) (by kernel_rfl) (fun _ _ _ h => h) (by rfl) ?_ HS ?_
                · intro W hW
                  obtain ⟨b7, off7, hA7, _, q0, q1, q2, q3, q4, q5⟩ := QA.out W (hW.get (evIt (some ⟨b9, off9, none⟩) (wEv 1 ws)))
                  obtain ⟨rfl, rfl⟩ : b9 = b7 ∧ off9 = off7 := by cases hA7; exact ⟨rfl, rfl⟩
                  try dsimp only at q0 q1 q2 q3 q4 q5
                  go_simp
                  try with_reducible rfl
                (try simp only [Act.put, List.setIfInBounds_toArray, List.set_cons_zero, List.set_cons_succ])
                refine branchH [14, 21] (by kernel_rfl) (by kernel_rfl) (AllStep.cons ?_ (AllStep.cons ?_ AllStep.nil))
                · refine stepH_do (i := 14) rfl (by rfl) ?_
                  refine wp_call_st rfl Try.func12 (by kernel_rfl) (by kernel_rfl) _ ?_ ((CD.out _ _ A1 c1 A2 c2 H inferInstance inferInstance hq1 hq2).mono ?_)
                  · rfl
                  clear H
                  rintro ed wy ⟨B1, d1, B2, d2, rfl, u1, u2, H⟩
                  replace HS := HS.of H
                  refine ⟨_, rfl, HS, ?_⟩
                  (try simp only [Act.put, List.setIfInBounds_toArray, List.set_cons_zero, List.set_cons_succ])
                  refine takeMove (i := 15) rfl rfl _ (by rfl) (by kernel_rfl) (by kernel_rfl) (by kernel_rfl) (fun _ _ _ _ h => h) (by rfl) HS ?_
                  (try simp only [Act.put, List.setIfInBounds_toArray, List.set_cons_zero, List.set_cons_succ])
                  refine takeExtract (i := 16) rfl rfl _ _ (by rfl) (by rfl) (by kernel_rfl) (by kernel_rfl) (by kernel_rfl) (fun _ _ _ _ h => h) (by rfl) HS ?_
                  (try simp only [Act.put, List.setIfInBounds_toArray, List.set_cons_zero, List.set_cons_succ])
                  refine takeExtract (i := 17) rfl rfl _ _ (by rfl) (by rfl) (by kernel_rfl) (by kernel_rfl) (by kernel_rfl) (fun _ _ _ _ h => h) (by rfl) HS ?_
                  (try simp only [Act.put, List.setIfInBounds_toArray, List.set_cons_zero, List.set_cons_succ])
                  refine takeExtract (i := 18) rfl rfl _ _ (by rfl) (by rfl) (by kernel_rfl) (by kernel_rfl) (by kernel_rfl) (fun _ _ _ _ h => h) (by rfl) HS ?_
                  (try simp only [Act.put, List.setIfInBounds_toArray, List.set_cons_zero, List.set_cons_succ])
                  refine takeExtract (i := 19) rfl rfl _ _ (by rfl) (by rfl) (by kernel_rfl) (by kernel_rfl) (by kernel_rfl) (fun _ _ _ _ h => h) (by rfl) HS ?_
                  (try simp only [Act.put, List.setIfInBounds_toArray, List.set_cons_zero, List.set_cons_succ])
                  refine branchH [21] (by kernel_rfl) (by kernel_rfl) (AllStep.cons ?_ AllStep.nil)
                  refine stepH_do (i := 21) rfl (by rfl) ?_
                  refine wp_alloc_st H 48 rfl _ ans_zero ?_
                  clear H
                  intro ga5 wx H
                  replace HS := HS.of H
                  refine ⟨HS, ?_⟩
                  (try simp only [Act.put, List.setIfInBounds_toArray, List.set_cons_zero, List.set_cons_succ])
                  refine branchH [22] (by kernel_rfl) (by kernel_rfl) (AllStep.cons ?_ AllStep.nil)
                  refine stepH_do (i := 22) rfl (by rfl) ?_
                  refine wp_store_st H 37 _ _ rfl rfl rfl (by kernel_rfl) (by rfl) (by kernel_rfl) ?_
                  clear H
                  intro wx H
                  replace HS := HS.of H
                  refine ⟨HS, ?_⟩
                  (try simp only [Act.put])
                  refine branchH [23] (by kernel_rfl) (by kernel_rfl) (AllStep.cons ?_ AllStep.nil)
                  refine stepH_do (i := 23) rfl (by rfl) ?_
                  refine wp_store_st H 48 _ _ rfl rfl rfl (by kernel_rfl) (by rfl) (by kernel_rfl) ?_
                  clear H
                  intro wx H
                  replace HS := HS.of H
                  refine ⟨HS, ?_⟩
                  (try simp only [Act.put])
                  refine takeAssign (i := 24) rfl rfl _ (by rfl) (by kernel_rfl) (by kernel_rfl) (by kernel_rfl) (fun _ _ _ _ h => h) (by rfl) HS ?_
                  (try simp only [Act.put, List.setIfInBounds_toArray, List.set_cons_zero, List.set_cons_succ])
                  refine takeAssign (i := 25) rfl rfl _ (by rfl) (by kernel_rfl) (by kernel_rfl) (by kernel_rfl) (fun _ _ _ _ h => h) (by rfl) HS ?_
                  (try simp only [Act.put, List.setIfInBounds_toArray, List.set_cons_zero, List.set_cons_succ])
                  refine doneH (by kernel_rfl) ?_
                  go_wp2_with (first | ((with_reducible refine here_load ?_); first | refine ldR H rfl _ _ rfl rfl (by kernel_rfl) ?_ | refine ldS H rfl _ _ rfl rfl (by rfl) ?_ | refine ldSG H (by rfl) _ _ rfl rfl (by rfl) ?_ | refine ldRG H (by rfl) _ _ rfl rfl (by kernel_rfl) ?_) | ((with_reducible refine here_store ?_); first | (refine stR H rfl _ _ _ rfl rfl rfl (by rfl) (by rfl) (by kernel_rfl) ?_; clear H; intro wx H) | (refine stS H rfl _ _ _ rfl rfl _ rfl (by rfl) (by rfl) (by rfl) ?_; clear H; intro wx H)) | ((with_reducible refine here_alloc ?_); first | (refine wpList_alloc_st H rfl 37 rfl _ q_zero ?_; clear H; intro gq6 wx H) | (refine wpList_alloc_st H rfl 48 rfl _ ans_zero ?_; clear H; intro ga6 wx H) | (refine wpList_alloc_st H rfl 44 rfl _ ev_zero ?_; clear H; intro ge6 wx H) | (refine wpList_alloc_st H rfl 26 rfl _ cli_zero ?_; clear H; intro gl6 wx H)) | ((with_reducible refine here_box ?_); refine wpList_box_st H rfl _ _ rfl _ rfl ?_; clear H; intro gb6 wx H))
                  go_roundw
                  case rel => exact ⟨i + 1, sent, ws, n, some ⟨b9, off9, none⟩, c, q', B1, d1, B2, d2, rfl, by go_num, by have := HIN.out; omega, HCS2.out, HL.out, hnc, u1, u2, H.subm _⟩
                  case measure => have := HI8.out; simp [intOf] <;> omega
                · refine stepH_do (i := 21) rfl (by rfl) ?_
                  refine wp_alloc_st H 48 rfl _ ans_zero ?_
                  clear H
                  intro ga5 wx H
                  replace HS := HS.of H
                  refine ⟨HS, ?_⟩
                  (try simp only [Act.put, List.setIfInBounds_toArray, List.set_cons_zero, List.set_cons_succ])
                  refine branchH [14] (by kernel_rfl) (by kernel_rfl) (AllStep.cons ?_ AllStep.nil)
                  refine stepH_do (i := 14) rfl (by rfl) ?_
                  refine wp_call_st rfl Try.func12 (by kernel_rfl) (by kernel_rfl) _ ?_ ((CD.out _ _ A1 c1 A2 c2 H inferInstance inferInstance hq1 hq2).mono ?_)
                  · rfl
                  clear H
                  rintro ed wy ⟨B1, d1, B2, d2, rfl, u1, u2, H⟩
                  replace HS := HS.of H
                  refine ⟨_, rfl, HS, ?_⟩
                  (try simp only [Act.put, List.setIfInBounds_toArray, List.set_cons_zero, List.set_cons_succ])
                  refine takeMove (i := 15) rfl rfl _ (by rfl) (by kernel_rfl) (by kernel_rfl) (by kernel_rfl) (fun _ _ _ _ h => h) (by rfl) HS ?_
                  (try simp only [Act.put, List.setIfInBounds_toArray, List.set_cons_zero, List.set_cons_succ])
                  refine takeExtract (i := 16) rfl rfl _ _ (by rfl) (by rfl) (by kernel_rfl) (by kernel_rfl) (by kernel_rfl) (fun _ _ _ _ h => h) (by rfl) HS ?_
                  (try simp only [Act.put, List.setIfInBounds_toArray, List.set_cons_zero, List.set_cons_succ])
                  refine takeExtract (i := 17) rfl rfl _ _ (by rfl) (by rfl) (by kernel_rfl) (by kernel_rfl) (by kernel_rfl) (fun _ _ _ _ h => h) (by rfl) HS ?_
                  (try simp only [Act.put, List.setIfInBounds_toArray, List.set_cons_zero, List.set_cons_succ])
                  refine takeExtract (i := 18) rfl rfl _ _ (by rfl) (by rfl) (by kernel_rfl) (by kernel_rfl) (by kernel_rfl) (fun _ _ _ _ h => h) (by rfl) HS ?_
                  (try simp only [Act.put, List.setIfInBounds_toArray, List.set_cons_zero, List.set_cons_succ])
                  refine takeExtract (i := 19) rfl rfl _ _ (by rfl) (by rfl) (by kernel_rfl) (by kernel_rfl) (by kernel_rfl) (fun _ _ _ _ h => h) (by rfl) HS ?_
                  (try simp only [Act.put, List.setIfInBounds_toArray, List.set_cons_zero, List.set_cons_succ])
                  refine branchH [22] (by kernel_rfl) (by kernel_rfl) (AllStep.cons ?_ AllStep.nil)
                  refine stepH_do (i := 22) rfl (by rfl) ?_
                  refine wp_store_st H 37 _ _ rfl rfl rfl (by kernel_rfl) (by rfl) (by kernel_rfl) ?_
                  clear H
                  intro wx H
                  replace HS := HS.of H
                  refine ⟨HS, ?_⟩
                  (try simp only [Act.put])
                  refine branchH [23] (by kernel_rfl) (by kernel_rfl) (AllStep.cons ?_ AllStep.nil)
                  refine stepH_do (i := 23) rfl (by rfl) ?_
                  refine wp_store_st H 48 _ _ rfl rfl rfl (by kernel_rfl) (by rfl) (by kernel_rfl) ?_
                  clear H
                  intro wx H
                  replace HS := HS.of H
                  refine ⟨HS, ?_⟩
                  (try simp only [Act.put])
                  refine takeAssign (i := 24) rfl rfl _ (by rfl) (by kernel_rfl) (by kernel_rfl) (by kernel_rfl) (fun _ _ _ _ h => h) (by rfl) HS ?_
                  (try simp only [Act.put, List.setIfInBounds_toArray, List.set_cons_zero, List.set_cons_succ])
                  refine takeAssign (i := 25) rfl rfl _ (by rfl) (by kernel_rfl) (by kernel_rfl) (by kernel_rfl) (fun _ _ _ _ h => h) (by rfl) HS ?_
                  (try simp only [Act.put, List.setIfInBounds_toArray, List.set_cons_zero, List.set_cons_succ])
                  refine doneH (by kernel_rfl) ?_
                  go_wp2_with (first | ((with_reducible refine here_load ?_); first | refine ldR H rfl _ _ rfl rfl (by kernel_rfl) ?_ | refine ldS H rfl _ _ rfl rfl (by rfl) ?_ | refine ldSG H (by rfl) _ _ rfl rfl (by rfl) ?_ | refine ldRG H (by rfl) _ _ rfl rfl (by kernel_rfl) ?_) | ((with_reducible refine here_store ?_); first | (refine stR H rfl _ _ _ rfl rfl rfl (by rfl) (by rfl) (by kernel_rfl) ?_; clear H; intro wx H) | (refine stS H rfl _ _ _ rfl rfl _ rfl (by rfl) (by rfl) (by rfl) ?_; clear H; intro wx H)) | ((with_reducible refine here_alloc ?_); first | (refine wpList_alloc_st H rfl 37 rfl _ q_zero ?_; clear H; intro gq6 wx H) | (refine wpList_alloc_st H rfl 48 rfl _ ans_zero ?_; clear H; intro ga6 wx H) | (refine wpList_alloc_st H rfl 44 rfl _ ev_zero ?_; clear H; intro ge6 wx H) | (refine wpList_alloc_st H rfl 26 rfl _ cli_zero ?_; clear H; intro gl6 wx H)) | ((with_reducible refine here_box ?_); refine wpList_box_st H rfl _ _ rfl _ rfl ?_; clear H; intro gb6 wx H))
                  go_roundw
                  case rel => exact ⟨i + 1, sent, ws, n, some ⟨b9, off9, none⟩, c, q', B1, d1, B2, d2, rfl, by go_num, by have := HIN.out; omega, HCS2.out, HL.out, hnc, u1, u2, H.subm _⟩
                  case measure => have := HI8.out; simp [intOf] <;> omega
              · refine stepH_do (i := 21) rfl (by rfl) ?_
                refine wp_alloc_st H 48 rfl _ ans_zero ?_
                clear H
                intro ga5 wx H
                replace HS := HS.of H
                refine ⟨HS, ?_⟩
                (try simp only [Act.put, List.setIfInBounds_toArray, List.set_cons_zero, List.set_cons_succ])
                refine branchH [11] (by kernel_rfl) (by kernel_rfl) (AllStep.cons ?_ AllStep.nil)
                refine stepH_do (i := 11) rfl (by rfl) ?_
                refine wp_call_st rfl Try.func10 (by kernel_rfl) (by kernel_rfl) _ ?_ ((PA.out _).mono ?_)
                · rfl
                rintro ed wy ⟨rfl, rfl⟩
                replace HS := HS.of H
                refine ⟨_, rfl, HS, ?_⟩
                (try simp only [Act.put, List.setIfInBounds_toArray, List.set_cons_zero, List.set_cons_succ])
                refine takeV (i := 12) (v := ?_) rfl (by kernel_rfl) (by kernel_rfl) (by kernel_rfl) (fun _ _ _ h => h) (by rfl) ?_ HS ?_
                rotate_left
                · (intro W hW; go_simp; try with_reducible rfl)
                (try simp only [Act.put, List.setIfInBounds_toArray, List.set_cons_zero, List.set_cons_succ])
                refine takeV (i := 13) (v := .agg #[.int .i64 1, .int .i64 1, .int .i64 id, .int .i64 body, .int .i64 0, .int .i64 0]) rfl (by kernel_rfl) (by kernel_rfl) (by kernel_rfl) (fun _ _ _ h => h) (by rfl) ?_ HS ?_
                · intro W hW
                  obtain ⟨b7, off7, hA7, _, q0, q1, q2, q3, q4, q5⟩ := QA.out W (hW.get (evIt (some ⟨b9, off9, none⟩) (wEv 1 ws)))
                  obtain ⟨rfl, rfl⟩ : b9 = b7 ∧ off9 = off7 := by cases hA7; exact ⟨rfl, rfl⟩
                  try dsimp only at q0 q1 q2 q3 q4 q5
                  go_simp
                  try with_reducible rfl
                (try simp only [Act.put, List.setIfInBounds_toArray, List.set_cons_zero, List.set_cons_succ])
                refine branchH [14] (by kernel_rfl) (by kernel_rfl) (AllStep.cons ?_ AllStep.nil)
                refine stepH_do (i := 14) rfl (by rfl) ?_
                refine wp_call_st rfl Try.func12 (by kernel_rfl) (by kernel_rfl) _ ?_ ((CD.out _ _ A1 c1 A2 c2 H inferInstance inferInstance hq1 hq2).mono ?_)
                · rfl
                clear H
                rintro ed wy ⟨B1, d1, B2, d2, rfl, u1, u2, H⟩
                replace HS := HS.of H
                refine ⟨_, rfl, HS, ?_⟩
                (try simp only [Act.put, List.setIfInBounds_toArray, List.set_cons_zero, List.set_cons_succ])
                refine takeMove (i := 15) rfl rfl _ (by rfl) (by kernel_rfl) (by kernel_rfl) (by kernel_rfl) (fun _ _ _ _ h => h) (by rfl) HS ?_
                (try simp only [Act.put, List.setIfInBounds_toArray, List.set_cons_zero, List.set_cons_succ])
                refine takeExtract (i := 16) rfl rfl _ _ (by rfl) (by rfl) (by kernel_rfl) (by kernel_rfl) (by kernel_rfl) (fun _ _ _ _ h => h) (by rfl) HS ?_
                (try simp only [Act.put, List.setIfInBounds_toArray, List.set_cons_zero, List.set_cons_succ])
                refine takeExtract (i := 17) rfl rfl _ _ (by rfl) (by rfl) (by kernel_rfl) (by kernel_rfl) (by kernel_rfl) (fun _ _ _ _ h => h) (by rfl) HS ?_
                (try simp only [Act.put, List.setIfInBounds_toArray, List.set_cons_zero, List.set_cons_succ])
                refine takeExtract (i := 18) rfl rfl _ _ (by rfl) (by rfl) (by kernel_rfl) (by kernel_rfl) (by kernel_rfl) (fun _ _ _ _ h => h) (by rfl) HS ?_
                (try simp only [Act.put, List.setIfInBounds_toArray, List.set_cons_zero, List.set_cons_succ])
                refine takeExtract (i := 19) rfl rfl _ _ (by rfl) (by rfl) (by kernel_rfl) (by kernel_rfl) (by kernel_rfl) (fun _ _ _ _ h => h) (by rfl) HS ?_
                (try simp only [Act.put, List.setIfInBounds_toArray, List.set_cons_zero, List.set_cons_succ])
                refine branchH [22] (by kernel_rfl) (by kernel_rfl) (AllStep.cons ?_ AllStep.nil)
                refine stepH_do (i := 22) rfl (by rfl) ?_
                refine wp_store_st H 37 _ _ rfl rfl rfl (by kernel_rfl) (by rfl) (by kernel_rfl) ?_
                clear H
                intro wx H
                replace HS := HS.of H
                refine ⟨HS, ?_⟩
                (try simp only [Act.put])
                refine branchH [23] (by kernel_rfl) (by kernel_rfl) (AllStep.cons ?_ AllStep.nil)
                refine stepH_do (i := 23) rfl (by rfl) ?_
                refine wp_store_st H 48 _ _ rfl rfl rfl (by kernel_rfl) (by rfl) (by kernel_rfl) ?_
                clear H
                intro wx H
                replace HS := HS.of H
                refine ⟨HS, ?_⟩
                (try simp only [Act.put])
                refine takeAssign (i := 24) rfl rfl _ (by rfl) (by kernel_rfl) (by kernel_rfl) (by kernel_rfl) (fun _ _ _ _ h => h) (by rfl) HS ?_
                (try simp only [Act.put, List.setIfInBounds_toArray, List.set_cons_zero, List.set_cons_succ])
                refine takeAssign (i := 25) rfl rfl _ (by rfl) (by kernel_rfl) (by kernel_rfl) (by kernel_rfl) (fun _ _ _ _ h => h) (by rfl) HS ?_
                (try simp only [Act.put, List.setIfInBounds_toArray, List.set_cons_zero, List.set_cons_succ])
                refine doneH (by kernel_rfl) ?_
                go_wp2_with (first | ((with_reducible refine here_load ?_); first | refine ldR H rfl _ _ rfl rfl (by kernel_rfl) ?_ | refine ldS H rfl _ _ rfl rfl (by rfl) ?_ | refine ldSG H (by rfl) _ _ rfl rfl (by rfl) ?_ | refine ldRG H (by rfl) _ _ rfl rfl (by kernel_rfl) ?_) | ((with_reducible refine here_store ?_); first | (refine stR H rfl _ _ _ rfl rfl rfl (by rfl) (by rfl) (by kernel_rfl) ?_; clear H; intro wx H) | (refine stS H rfl _ _ _ rfl rfl _ rfl (by rfl) (by rfl) (by rfl) ?_; clear H; intro wx H)) | ((with_reducible refine here_alloc ?_); first | (refine wpList_alloc_st H rfl 37 rfl _ q_zero ?_; clear H; intro gq6 wx H) | (refine wpList_alloc_st H rfl 48 rfl _ ans_zero ?_; clear H; intro ga6 wx H) | (refine wpList_alloc_st H rfl 44 rfl _ ev_zero ?_; clear H; intro ge6 wx H) | (refine wpList_alloc_st H rfl 26 rfl _ cli_zero ?_; clear H; intro gl6 wx H)) | ((with_reducible refine here_box ?_); refine wpList_box_st H rfl _ _ rfl _ rfl ?_; clear H; intro gb6 wx H))
                go_roundw
                case rel => exact ⟨i + 1, sent, ws, n, some ⟨b9, off9, none⟩, c, q', B1, d1, B2, d2, rfl, by go_num, by have := HIN.out; omega, HCS2.out, HL.out, hnc, u1, u2, H.subm _⟩
                case measure => have := HI8.out; simp [intOf] <;> omega
            · refine stepH_do (i := 21) rfl (by rfl) ?_
              refine wp_alloc_st H 48 rfl _ ans_zero ?_
              clear H
              intro ga5 wx H
              replace HS := HS.of H
              refine ⟨HS, ?_⟩
              (try simp only [Act.put, List.setIfInBounds_toArray, List.set_cons_zero, List.set_cons_succ])
              refine branchH [11, 20] (by kernel_rfl) (by kernel_rfl) (AllStep.cons ?_ (AllStep.cons ?_ AllStep.nil))
              · refine stepH_do (i := 11) rfl (by rfl) ?_
                refine wp_call_st rfl Try.func10 (by kernel_rfl) (by kernel_rfl) _ ?_ ((PA.out _).mono ?_)
                · rfl
                rintro ed wy ⟨rfl, rfl⟩
                replace HS := HS.of H
                refine ⟨_, rfl, HS, ?_⟩
                (try simp only [Act.put, List.setIfInBounds_toArray, List.set_cons_zero, List.set_cons_succ])
                refine takeV (i := 12) (v := ?_) rfl (by kernel_rfl) (by kernel_rfl) (by kernel_rfl) (fun _ _ _ h => h) (by rfl) ?_ HS ?_
                rotate_left
                · (intro W hW; go_simp; try with_reducible rfl)
                (try simp only [Act.put, List.setIfInBounds_toArray, List.set_cons_zero, List.set_cons_succ])
                refine takeV (i := 13) (v := .agg #[.int .i64 1, .int .i64 1, .int .i64 id, .int .i64 body, .int .i64 0, .int .i64 0]) rfl (by kernel_rfl) (by kernel_rfl) (by kernel_rfl) (fun _ _ _ h => h) (by rfl) ?_ HS ?_
                · intro W hW
                  obtain ⟨b7, off7, hA7, _, q0, q1, q2, q3, q4, q5⟩ := QA.out W (hW.get (evIt (some ⟨b9, off9, none⟩) (wEv 1 ws)))
                  obtain ⟨rfl, rfl⟩ : b9 = b7 ∧ off9 = off7 := by cases hA7; exact ⟨rfl, rfl⟩
                  try dsimp only at q0 q1 q2 q3 q4 q5
                  go_simp
                  try with_reducible rfl
                (try simp only [Act.put, List.setIfInBounds_toArray, List.set_cons_zero, List.set_cons_succ])
                refine branchH [14, 20] (by kernel_rfl) (by kernel_rfl) (AllStep.cons ?_ (AllStep.cons ?_ AllStep.nil))
                · refine stepH_do (i := 14) rfl (by rfl) ?_
                  refine wp_call_st rfl Try.func12 (by kernel_rfl) (by kernel_rfl) _ ?_ ((CD.out _ _ A1 c1 A2 c2 H inferInstance inferInstance hq1 hq2).mono ?_)
                  · rfl
                  clear H
                  rintro ed wy ⟨B1, d1, B2, d2, rfl, u1, u2, H⟩
                  replace HS := HS.of H
                  refine ⟨_, rfl, HS, ?_⟩
                  (try simp only [Act.put, List.setIfInBounds_toArray, List.set_cons_zero, List.set_cons_succ])
                  refine takeMove (i := 15) rfl rfl _ (by rfl) (by kernel_rfl) (by kernel_rfl) (by kernel_rfl) (fun _ _ _ _ h => h) (by rfl) HS ?_
                  (try simp only [Act.put, List.setIfInBounds_toArray, List.set_cons_zero, List.set_cons_succ])
                  refine takeExtract (i := 16) rfl rfl _ _ (by rfl) (by rfl) (by kernel_rfl) (by kernel_rfl) (by kernel_rfl) (fun _ _ _ _ h => h) (by rfl) HS ?_
                  (try simp only [Act.put, List.setIfInBounds_toArray, List.set_cons_zero, List.set_cons_succ])
                  refine takeExtract (i := 17) rfl rfl _ _ (by rfl) (by rfl) (by kernel_rfl) (by kernel_rfl) (by kernel_rfl) (fun _ _ _ _ h => h) (by rfl) HS ?_
                  (try simp only [Act.put, List.setIfInBounds_toArray, List.set_cons_zero, List.set_cons_succ])
                  refine takeExtract (i := 18) rfl rfl _ _ (by rfl) (by rfl) (by kernel_rfl) (by kernel_rfl) (by kernel_rfl) (fun _ _ _ _ h => h) (by rfl) HS ?_
                  (try simp only [Act.put, List.setIfInBounds_toArray, List.set_cons_zero, List.set_cons_succ])
                  refine takeExtract (i := 19) rfl rfl _ _ (by rfl) (by rfl) (by kernel_rfl) (by kernel_rfl) (by kernel_rfl) (fun _ _ _ _ h => h) (by rfl) HS ?_
                  (try simp only [Act.put, List.setIfInBounds_toArray, List.set_cons_zero, List.set_cons_succ])
                  refine branchH [20] (by kernel_rfl) (by kernel_rfl) (AllStep.cons ?_ AllStep.nil)
                  refine stepH_do (i := 20) rfl (by rfl) ?_
                  refine wp_alloc_st H 37 rfl _ q_zero ?_
                  clear H
                  intro gq5 wx H
                  replace HS := HS.of H
                  refine ⟨HS, ?_⟩
                  (try simp only [Act.put, List.setIfInBounds_toArray, List.set_cons_zero, List.set_cons_succ])
                  refine branchH [22] (by kernel_rfl) (by kernel_rfl) (AllStep.cons ?_ AllStep.nil)
                  refine stepH_do (i := 22) rfl (by rfl) ?_
                  refine wp_store_st H 37 _ _ rfl rfl rfl (by kernel_rfl) (by rfl) (by kernel_rfl) ?_
                  clear H
                  intro wx H
                  replace HS := HS.of H
                  refine ⟨HS, ?_⟩
                  (try simp only [Act.put])
                  refine branchH [23] (by kernel_rfl) (by kernel_rfl) (AllStep.cons ?_ AllStep.nil)
                  refine stepH_do (i := 23) rfl (by rfl) ?_
                  refine wp_store_st H 48 _ _ rfl rfl rfl (by kernel_rfl) (by rfl) (by kernel_rfl) ?_
                  clear H
                  intro wx H
                  replace HS := HS.of H
                  refine ⟨HS, ?_⟩
                  (try simp only [Act.put])
                  refine takeAssign (i := 24) rfl rfl _ (by rfl) (by kernel_rfl) (by kernel_rfl) (by kernel_rfl) (fun _ _ _ _ h => h) (by rfl) HS ?_
                  (try simp only [Act.put, List.setIfInBounds_toArray, List.set_cons_zero, List.set_cons_succ])
                  refine takeAssign (i := 25) rfl rfl _ (by rfl) (by kernel_rfl) (by kernel_rfl) (by kernel_rfl) (fun _ _ _ _ h => h) (by rfl) HS ?_
                  (try simp only [Act.put, List.setIfInBounds_toArray, List.set_cons_zero, List.set_cons_succ])
                  refine doneH (by kernel_rfl) ?_
                  go_wp2_with (first | ((with_reducible refine here_load ?_); first | refine ldR H rfl _ _ rfl rfl (by kernel_rfl) ?_ | refine ldS H rfl _ _ rfl rfl (by rfl) ?_ | refine ldSG H (by rfl) _ _ rfl rfl (by rfl) ?_ | refine ldRG H (by rfl) _ _ rfl rfl (by kernel_rfl) ?_) | ((with_reducible refine here_store ?_); first | (refine stR H rfl _ _ _ rfl rfl rfl (by rfl) (by rfl) (by kernel_rfl) ?_; clear H; intro wx H) | (refine stS H rfl _ _ _ rfl rfl _ rfl (by rfl) (by rfl) (by rfl) ?_; clear H; intro wx H)) | ((with_reducible refine here_alloc ?_); first | (refine wpList_alloc_st H rfl 37 rfl _ q_zero ?_; clear H; intro gq6 wx H) | (refine wpList_alloc_st H rfl 48 rfl _ ans_zero ?_; clear H; intro ga6 wx H) | (refine wpList_alloc_st H rfl 44 rfl _ ev_zero ?_; clear H; intro ge6 wx H) | (refine wpList_alloc_st H rfl 26 rfl _ cli_zero ?_; clear H; intro gl6 wx H)) | ((with_reducible refine here_box ?_); refine wpList_box_st H rfl _ _ rfl _ rfl ?_; clear H; intro gb6 wx H))
                  go_roundw
                  case rel => exact ⟨i + 1, sent, ws, n, some ⟨b9, off9, none⟩, c, q', B1, d1, B2, d2, rfl, by go_num, by have := HIN.out; omega, HCS2.out, HL.out, hnc, u1, u2, H.subm _⟩
                  case measure => have := HI8.out; simp [intOf] <;> omega
                · refine stepH_do (i := 20) rfl (by rfl) ?_
                  refine wp_alloc_st H 37 rfl _ q_zero ?_
                  clear H
                  intro gq5 wx H
                  replace HS := HS.of H
                  refine ⟨HS, ?_⟩
                  (try simp only [Act.put, List.setIfInBounds_toArray, List.set_cons_zero, List.set_cons_succ])
                  refine branchH [14] (by kernel_rfl) (by kernel_rfl) (AllStep.cons ?_ AllStep.nil)
                  refine stepH_do (i := 14) rfl (by rfl) ?_
                  refine wp_call_st rfl Try.func12 (by kernel_rfl) (by kernel_rfl) _ ?_ ((CD.out _ _ A1 c1 A2 c2 H inferInstance inferInstance hq1 hq2).mono ?_)
                  · rfl
                  clear H
                  rintro ed wy ⟨B1, d1, B2, d2, rfl, u1, u2, H⟩
                  replace HS := HS.of H
                  refine ⟨_, rfl, HS, ?_⟩
                  (try simp only [Act.put, List.setIfInBounds_toArray, List.set_cons_zero, List.set_cons_succ])
                  refine takeMove (i := 15) rfl rfl _ (by rfl) (by kernel_rfl) (by kernel_rfl) (by kernel_rfl) (fun _ _ _ _ h => h) (by rfl) HS ?_
                  (try simp only [Act.put, List.setIfInBounds_toArray, List.set_cons_zero, List.set_cons_succ])
                  refine takeExtract (i := 16) rfl rfl _ _ (by rfl) (by rfl) (by kernel_rfl) (by kernel_rfl) (by kernel_rfl) (fun _ _ _ _ h => h) (by rfl) HS ?_
                  (try simp only [Act.put, List.setIfInBounds_toArray, List.set_cons_zero, List.set_cons_succ])
                  refine takeExtract (i := 17) rfl rfl _ _ (by rfl) (by rfl) (by kernel_rfl) (by kernel_rfl) (by kernel_rfl) (fun _ _ _ _ h => h) (by rfl) HS ?_
                  (try simp only [Act.put, List.setIfInBounds_toArray, List.set_cons_zero, List.set_cons_succ])
                  refine takeExtract (i := 18) rfl rfl _ _ (by rfl) (by rfl) (by kernel_rfl) (by kernel_rfl) (by kernel_rfl) (fun _ _ _ _ h => h) (by rfl) HS ?_
                  (try simp only [Act.put, List.setIfInBounds_toArray, List.set_cons_zero, List.set_cons_succ])
                  refine takeExtract (i := 19) rfl rfl _ _ (by rfl) (by rfl) (by kernel_rfl) (by kernel_rfl) (by kernel_rfl) (fun _ _ _ _ h => h) (by rfl) HS ?_
                  (try simp only [Act.put, List.setIfInBounds_toArray, List.set_cons_zero, List.set_cons_succ])
                  refine branchH [22] (by kernel_rfl) (by kernel_rfl) (AllStep.cons ?_ AllStep.nil)
                  refine stepH_do (i := 22) rfl (by rfl) ?_
                  refine wp_store_st H 37 _ _ rfl rfl rfl (by kernel_rfl) (by rfl) (by kernel_rfl) ?_
                  clear H
                  intro wx H
                  replace HS := HS.of H
                  refine ⟨HS, ?_⟩
                  (try simp only [Act.put])
                  refine branchH [23] (by kernel_rfl) (by kernel_rfl) (AllStep.cons ?_ AllStep.nil)
                  refine stepH_do (i := 23) rfl (by rfl) ?_
                  refine wp_store_st H 48 _ _ rfl rfl rfl (by kernel_rfl) (by rfl) (by kernel_rfl) ?_
                  clear H
                  intro wx H
                  replace HS := HS.of H
                  refine ⟨HS, ?_⟩
                  (try simp only [Act.put])
                  refine takeAssign (i := 24) rfl rfl _ (by rfl) (by kernel_rfl) (by kernel_rfl) (by kernel_rfl) (fun _ _ _ _ h => h) (by rfl) HS ?_
                  (try simp only [Act.put, List.setIfInBounds_toArray, List.set_cons_zero, List.set_cons_succ])
                  refine takeAssign (i := 25) rfl rfl _ (by rfl) (by kernel_rfl) (by kernel_rfl) (by kernel_rfl) (fun _ _ _ _ h => h) (by rfl) HS ?_
                  (try simp only [Act.put, List.setIfInBounds_toArray, List.set_cons_zero, List.set_cons_succ])
                  refine doneH (by kernel_rfl) ?_
                  go_wp2_with (first | ((with_reducible refine here_load ?_); first | refine ldR H rfl _ _ rfl rfl (by kernel_rfl) ?_ | refine ldS H rfl _ _ rfl rfl (by rfl) ?_ | refine ldSG H (by rfl) _ _ rfl rfl (by rfl) ?_ | refine ldRG H (by rfl) _ _ rfl rfl (by kernel_rfl) ?_) | ((with_reducible refine here_store ?_); first | (refine stR H rfl _ _ _ rfl rfl rfl (by rfl) (by rfl) (by kernel_rfl) ?_; clear H; intro wx H) | (refine stS H rfl _ _ _ rfl rfl _ rfl (by rfl) (by rfl) (by rfl) ?_; clear H; intro wx H)) | ((with_reducible refine here_alloc ?_); first | (refine wpList_alloc_st H rfl 37 rfl _ q_zero ?_; clear H; intro gq6 wx H) | (refine wpList_alloc_st H rfl 48 rfl _ ans_zero ?_; clear H; intro ga6 wx H) | (refine wpList_alloc_st H rfl 44 rfl _ ev_zero ?_; clear H; intro ge6 wx H) | (refine wpList_alloc_st H rfl 26 rfl _ cli_zero ?_; clear H; intro gl6 wx H)) | ((with_reducible refine here_box ?_); refine wpList_box_st H rfl _ _ rfl _ rfl ?_; clear H; intro gb6 wx H))
                  go_roundw
                  case rel => exact ⟨i + 1, sent, ws, n, some ⟨b9, off9, none⟩, c, q', B1, d1, B2, d2, rfl, by go_num, by have := HIN.out; omega, HCS2.out, HL.out, hnc, u1, u2, H.subm _⟩
                  case measure => have := HI8.out; simp [intOf] <;> omega
              · refine stepH_do (i := 20) rfl (by rfl) ?_
                refine wp_alloc_st H 37 rfl _ q_zero ?_
                clear H
                intro gq5 wx H
                replace HS := HS.of H
                refine ⟨HS, ?_⟩
                (try simp only [Act.put, List.setIfInBounds_toArray, List.set_cons_zero, List.set_cons_succ])
                refine branchH [11] (by kernel_rfl) (by kernel_rfl) (AllStep.cons ?_ AllStep.nil)
                refine stepH_do (i := 11) rfl (by rfl) ?_
                refine wp_call_st rfl Try.func10 (by kernel_rfl) (by kernel_rfl) _ ?_ ((PA.out _).mono ?_)
                · rfl
                rintro ed wy ⟨rfl, rfl⟩
                replace HS := HS.of H
                refine ⟨_, rfl, HS, ?_⟩
                (try simp only [Act.put, List.setIfInBounds_toArray, List.set_cons_zero, List.set_cons_succ])
                refine takeV (i := 12) (v := ?_) rfl (by kernel_rfl) (by kernel_rfl) (by kernel_rfl) (fun _ _ _ h => h) (by rfl) ?_ HS ?_
                rotate_left
                · (intro W hW; go_simp; try with_reducible rfl)
                (try simp only [Act.put, List.setIfInBounds_toArray, List.set_cons_zero, List.set_cons_succ])
                refine takeV (i := 13) (v := .agg #[.int .i64 1, .int .i64 1, .int .i64 id, .int .i64 body, .int .i64 0, .int .i64 0]) rfl (by kernel_rfl) (by kernel_rfl) (by kernel_rfl) (fun _ _ _ h => h) (by rfl) ?_ HS ?_
                · intro W hW
                  obtain ⟨b7, off7, hA7, _, q0, q1, q2, q3, q4, q5⟩ := QA.out W (hW.get (evIt (some ⟨b9, off9, none⟩) (wEv 1 ws)))
                  obtain ⟨rfl, rfl⟩ : b9 = b7 ∧ off9 = off7 := by cases hA7; exact ⟨rfl, rfl⟩
                  try dsimp only at q0 q1 q2 q3 q4 q5
                  go_simp
                  try with_reducible rfl
                (try simp only [Act.put, List.setIfInBounds_toArray, List.set_cons_zero, List.set_cons_succ])
                refine branchH [14] (by kernel_rfl) (by kernel_rfl) (AllStep.cons ?_ AllStep.nil)
                refine stepH_do (i := 14) rfl (by rfl) ?_
                refine wp_call_st rfl Try.func12 (by kernel_rfl) (by kernel_rfl) _ ?_ ((CD.out _ _ A1 c1 A2 c2 H inferInstance inferInstance hq1 hq2).mono ?_)
                · rfl
                clear H
                rintro ed wy ⟨B1, d1, B2, d2, rfl, u1, u2, H⟩
                replace HS := HS.of H
                refine ⟨_, rfl, HS, ?_⟩
                (try simp only [Act.put, List.setIfInBounds_toArray, List.set_cons_zero, List.set_cons_succ])
                refine takeMove (i := 15) rfl rfl _ (by rfl) (by kernel_rfl) (by kernel_rfl) (by kernel_rfl) (fun _ _ _ _ h => h) (by rfl) HS ?_
                (try simp only [Act.put, List.setIfInBounds_toArray, List.set_cons_zero, List.set_cons_succ])
                refine takeExtract (i := 16) rfl rfl _ _ (by rfl) (by rfl) (by kernel_rfl) (by kernel_rfl) (by kernel_rfl) (fun _ _ _ _ h => h) (by rfl) HS ?_
                (try simp only [Act.put, List.setIfInBounds_toArray, List.set_cons_zero, List.set_cons_succ])
                refine takeExtract (i := 17) rfl rfl _ _ (by rfl) (by rfl) (by kernel_rfl) (by kernel_rfl) (by kernel_rfl) (fun _ _ _ _ h => h) (by rfl) HS ?_
                (try simp only [Act.put, List.setIfInBounds_toArray, List.set_cons_zero, List.set_cons_succ])
                refine takeExtract (i := 18) rfl rfl _ _ (by rfl) (by rfl) (by kernel_rfl) (by kernel_rfl) (by kernel_rfl) (fun _ _ _ _ h => h) (by rfl) HS ?_
                (try simp only [Act.put, List.setIfInBounds_toArray, List.set_cons_zero, List.set_cons_succ])
                refine takeExtract (i := 19) rfl rfl _ _ (by rfl) (by rfl) (by kernel_rfl) (by kernel_rfl) (by kernel_rfl) (fun _ _ _ _ h => h) (by rfl) HS ?_
                (try simp only [Act.put, List.setIfInBounds_toArray, List.set_cons_zero, List.set_cons_succ])
                refine branchH [22] (by kernel_rfl) (by kernel_rfl) (AllStep.cons ?_ AllStep.nil)
                refine stepH_do (i := 22) rfl (by rfl) ?_
                refine wp_store_st H 37 _ _ rfl rfl rfl (by kernel_rfl) (by rfl) (by kernel_rfl) ?_
                clear H
                intro wx H
                replace HS := HS.of H
                refine ⟨HS, ?_⟩
                (try simp only [Act.put])
                refine branchH [23] (by kernel_rfl) (by kernel_rfl) (AllStep.cons ?_ AllStep.nil)
                refine stepH_do (i := 23) rfl (by rfl) ?_
                refine wp_store_st H 48 _ _ rfl rfl rfl (by kernel_rfl) (by rfl) (by kernel_rfl) ?_
                clear H
                intro wx H
                replace HS := HS.of H
                refine ⟨HS, ?_⟩
                (try simp only [Act.put])
                refine takeAssign (i := 24) rfl rfl _ (by rfl) (by kernel_rfl) (by kernel_rfl) (by kernel_rfl) (fun _ _ _ _ h => h) (by rfl) HS ?_
                (try simp only [Act.put, List.setIfInBounds_toArray, List.set_cons_zero, List.set_cons_succ])
                refine takeAssign (i := 25) rfl rfl _ (by rfl) (by kernel_rfl) (by kernel_rfl) (by kernel_rfl) (fun _ _ _ _ h => h) (by rfl) HS ?_
                (try simp only [Act.put, List.setIfInBounds_toArray, List.set_cons_zero, List.set_cons_succ])
                refine doneH (by kernel_rfl) ?_
                go_wp2_with (first | ((with_reducible refine here_load ?_); first | refine ldR H rfl _ _ rfl rfl (by kernel_rfl) ?_ | refine ldS H rfl _ _ rfl rfl (by rfl) ?_ | refine ldSG H (by rfl) _ _ rfl rfl (by rfl) ?_ | refine ldRG H (by rfl) _ _ rfl rfl (by kernel_rfl) ?_) | ((with_reducible refine here_store ?_); first | (refine stR H rfl _ _ _ rfl rfl rfl (by rfl) (by rfl) (by kernel_rfl) ?_; clear H; intro wx H) | (refine stS H rfl _ _ _ rfl rfl _ rfl (by rfl) (by rfl) (by rfl) ?_; clear H; intro wx H)) | ((with_reducible refine here_alloc ?_); first | (refine wpList_alloc_st H rfl 37 rfl _ q_zero ?_; clear H; intro gq6 wx H) | (refine wpList_alloc_st H rfl 48 rfl _ ans_zero ?_; clear H; intro ga6 wx H) | (refine wpList_alloc_st H rfl 44 rfl _ ev_zero ?_; clear H; intro ge6 wx H) | (refine wpList_alloc_st H rfl 26 rfl _ cli_zero ?_; clear H; intro gl6 wx H)) | ((with_reducible refine here_box ?_); refine wpList_box_st H rfl _ _ rfl _ rfl ?_; clear H; intro gb6 wx H))
                go_roundw
                case rel => exact ⟨i + 1, sent, ws, n, some ⟨b9, off9, none⟩, c, q', B1, d1, B2, d2, rfl, by go_num, by have := HIN.out; omega, HCS2.out, HL.out, hnc, u1, u2, H.subm _⟩
                case measure => have := HI8.out; simp [intOf] <;> omega
      · clear kkl kkh
        as_aux_lemma =>
          by_cases hn0 : n = 0
          · subst hn0
            go_wp2_with (first | (go_at_call 10; with_reducible refine (PKK.out _).mono ?_; rintro ed wy ⟨rfl, rfl⟩) | (first | ((with_reducible refine here_load ?_); first | refine ldR H rfl _ _ rfl rfl (by kernel_rfl) ?_ | refine ldS H rfl _ _ rfl rfl (by rfl) ?_ | refine ldSG H (by rfl) _ _ rfl rfl (by rfl) ?_ | refine ldRG H (by rfl) _ _ rfl rfl (by kernel_rfl) ?_) | ((with_reducible refine here_store ?_); first | (refine stR H rfl _ _ _ rfl rfl rfl (by rfl) (by rfl) (by kernel_rfl) ?_; clear H; intro wx H) | (refine stS H rfl _ _ _ rfl rfl _ rfl (by rfl) (by rfl) (by rfl) ?_; clear H; intro wx H)) | ((with_reducible refine here_alloc ?_); first | (refine wpList_alloc_st H rfl 37 rfl _ q_zero ?_; clear H; intro gq3 wx H) | (refine wpList_alloc_st H rfl 48 rfl _ ans_zero ?_; clear H; intro ga3 wx H) | (refine wpList_alloc_st H rfl 44 rfl _ ev_zero ?_; clear H; intro ge3 wx H) | (refine wpList_alloc_st H rfl 26 rfl _ cli_zero ?_; clear H; intro gl3 wx H)) | ((with_reducible refine here_box ?_); refine wpList_box_st H rfl _ _ rfl _ rfl ?_; clear H; intro gb3 wx H)))
            go_roundw
            case rel => exact ⟨i + 1, sent, ws, 0, A, c, q, A1, c1, A2, c2, rfl, by go_num, by have := HIN.out; omega, HCS.out.next HI8.out, HL.out, hnc, hq1, hq2, H.subm _⟩
            case measure => have := HI8.out; simp [intOf] <;> omega
          · have g1 : ¬ (n : Int) = 0 := by omega
            have g2 : ((n : Int) == 0) = false := beq_eq_false_iff_ne.2 g1
            have PA := Lib.hid (fun W => (picked_any x1 (n : Int) W (hx1).1 (hx1).2 (by omega) (by omega)).mono (fun e w' h => (⟨h.1, h.2.symm⟩ : e = .returned (.int .i64 (pick x1 (n : Int))) ∧ w' = W)))
            have k_l := pick_lo x1 (n : Int) (by omega)
            have k_h := pick_hi x1 (n : Int) (by omega)
            obtain ⟨k_, hk_⟩ : ∃ x, pick x1 (n : Int) = x := ⟨_, rfl⟩
            rw [hk_] at PA k_l k_h
            clear hk_
            obtain ⟨k, rfl⟩ : ∃ x : Nat, k_ = (x : Int) := ⟨k_.toNat, by omega⟩
            have hkn : k < n := by omega
            have HKN := Lib.hid hkn
            have HKL := Lib.hid (show k < ws.length from by rw [HL.out]; exact hkn)
            obtain ⟨id, hid⟩ : ∃ id, (ws.getD k (0, 0)).1 = id := ⟨_, rfl⟩
            obtain ⟨body, hbody⟩ : ∃ b, (ws.getD k (0, 0)).2 = b := ⟨_, rfl⟩
            have HGK := Lib.hid (show (wEv 1 ws).getD k .zero0 = ⟨1, 1, id, body, 0, 0⟩ from by rw [wEv_get 1 ws k HKL.out, hid, hbody])
            obtain ⟨b9, off9, hA9, hb9, _⟩ := qevAt (H.get (evIt A (wEv 1 ws))) rfl (show k < (wEv 1 ws).length by rw [wEv_len]; exact HKL.out)
            subst hA9
            have QA := Lib.hid (fun W (hW : Reads W W.heap.size 6 (some ⟨b9, off9, none⟩) (wEv 1 ws).length (qevCells (wEv 1 ws))) => qevAt hW rfl (show k < (wEv 1 ws).length by rw [wEv_len]; exact HKL.out))
            rw [HGK.out] at QA
            have k0 : (0 : Int) ≤ (k : Int) := by omega
            have k1 : (k : Int) < (n : Int) := by omega
            have k2 : (n : Int) ≤ (c : Int) := by omega
            clear hb9 hkn
            have hids := HCS.out.ok.ids k HKL.out
            rw [hid] at hids
            have htop := HCS.out.top
            have hsi := HCS.out.si
            have CDN := Lib.hid (fun W J (H : St w W J) (hI : Has J (evIt (some ⟨b9, off9, none⟩) (wEv 1 ws))) => cdone_st (hI := hI) (w0 := w) (w := W) (I := J) sent (some ⟨b9, off9, none⟩) n c ws id k HCS.out.ok HL.out (by omega) hnc HKN.out hid (fun t ht => by have := clok_incr HCS.out.ok t k ht HKL.out; omega) H)
            obtain ⟨b, hb⟩ : ∃ b, q.S 1 id = b := ⟨_, rfl⟩
            have SE := Lib.hid (fun W J (H : St w W J) => seen_st (w0 := w) (w := W) (I := J) (q.t 1) (q.S 1) id (HCS.out.inv.win 1 (by omega)) (by omega) (by omega) (by omega) H)
            rw [hb] at SE
            have HDN := Lib.hid (HCS.out.done HI8.out k HKL.out)
            have HLD := Lib.hid (show (ws.take k ++ ws.drop (k + 1)).length = n - 1 from by rw [List.length_append, List.length_take, List.length_drop, HL.out]; have := HKN.out; omega)
            clear hids htop hsi hb hid hbody
            go_upto_region 11 with (first | (go_at_call 10; with_reducible refine (PKK.out _).mono ?_; rintro ed wy ⟨rfl, rfl⟩) | (first | ((with_reducible refine here_load ?_); first | refine ldR H rfl _ _ rfl rfl (by kernel_rfl) ?_ | refine ldS H rfl _ _ rfl rfl (by rfl) ?_ | refine ldSG H (by rfl) _ _ rfl rfl (by rfl) ?_ | refine ldRG H (by rfl) _ _ rfl rfl (by kernel_rfl) ?_) | ((with_reducible refine here_store ?_); first | (refine stR H rfl _ _ _ rfl rfl rfl (by rfl) (by rfl) (by kernel_rfl) ?_; clear H; intro wx H) | (refine stS H rfl _ _ _ rfl rfl _ rfl (by rfl) (by rfl) (by rfl) ?_; clear H; intro wx H)) | ((with_reducible refine here_alloc ?_); first | (refine wpList_alloc_st H rfl 37 rfl _ q_zero ?_; clear H; intro gq4 wx H) | (refine wpList_alloc_st H rfl 48 rfl _ ans_zero ?_; clear H; intro ga4 wx H) | (refine wpList_alloc_st H rfl 44 rfl _ ev_zero ?_; clear H; intro ge4 wx H) | (refine wpList_alloc_st H rfl 26 rfl _ cli_zero ?_; clear H; intro gl4 wx H)) | ((with_reducible refine here_box ?_); refine wpList_box_st H rfl _ _ rfl _ rfl ?_; clear H; intro gb4 wx H)))
            refine startS (H.subm (.bl gl0 26 (cl7 1 (sent : Int) (some ⟨b9, off9, none⟩) n c) :: .bl gq0 37 (qArr q A1 c1 A2 c2) :: evIt (some ⟨b9, off9, none⟩) (wEv 1 ws) :: rdIt q A1 :: lsIt q A2 :: [])) (by kernel_rfl) (fun HS => ?_)
            replace H := H.drew
            refine takeV (i := 0) (v := ?_) rfl (by kernel_rfl) (by kernel_rfl) (by kernel_rfl) (fun _ _ _ h => h) (by rfl) ?_ HS ?_
            rotate_left
            · (intro W hW; go_simp; try with_reducible rfl)
            (try simp only [Act.put, List.setIfInBounds_toArray, List.set_cons_zero, List.set_cons_succ])
            refine take1_st (i := 1) 23 _ rfl rfl rfl sc_Evs _ (by rfl) (by kernel_rfl) (by kernel_rfl) (by kernel_rfl) (fun _ _ _ _ h => h) (by rfl) HS ?_
            (try simp only [Act.put, List.setIfInBounds_toArray, List.set_cons_zero, List.set_cons_succ])
            refine takeMove (i := 2) rfl rfl _ (by rfl) (by kernel_rfl) (by kernel_rfl) (by kernel_rfl) (fun _ _ _ _ h => h) (by rfl) HS ?_
            (try simp only [Act.put, List.setIfInBounds_toArray, List.set_cons_zero, List.set_cons_succ])
            refine takeMove (i := 3) rfl rfl _ (by rfl) (by kernel_rfl) (by kernel_rfl) (by kernel_rfl) (fun _ _ _ _ h => h) (by rfl) HS ?_
            (try simp only [Act.put, List.setIfInBounds_toArray, List.set_cons_zero, List.set_cons_succ])
            refine takeV (i := 4) (v := ?_) rfl (by kernel_rfl) (by kernel_rfl) (by kernel_rfl) (fun _ _ _ h => h) (by rfl) ?_ HS ?_
            rotate_left
            · (intro W hW; go_simp; try with_reducible rfl)
            (try simp only [Act.put, List.setIfInBounds_toArray, List.set_cons_zero, List.set_cons_succ])
            refine takeV (i := 5) (v := ?_) rfl (by kernel_rfl) (by kernel_rfl) (by kernel_rfl) (fun _ _ _ h => h) (by rfl) ?_ HS ?_
            rotate_left
            · (intro W hW; go_simp; try with_reducible rfl)
            (try simp only [Act.put, List.setIfInBounds_toArray, List.set_cons_zero, List.set_cons_succ])
            refine takeV (i := 6) (v := .int .i64 x1) rfl (by kernel_rfl) (by kernel_rfl) (by kernel_rfl) (fun _ _ _ h => h) (by rfl) ?_ HS ?_
            · intro W hW
              have q1 := QX.out W hW.bel
              go_simp
              try with_reducible rfl
            (try simp only [Act.put, List.setIfInBounds_toArray, List.set_cons_zero, List.set_cons_succ])
            refine takeV (i := 7) (v := ?_) rfl (by kernel_rfl) (by kernel_rfl) (by kernel_rfl) (fun _ _ _ h => h) (by rfl) ?_ HS ?_
            rotate_left
            · (intro W hW; go_simp; try with_reducible rfl)
            (try simp only [Act.put, List.setIfInBounds_toArray, List.set_cons_zero, List.set_cons_succ])
            refine take1_st (i := 8) 23 _ rfl rfl rfl sc_Evs _ (by rfl) (by kernel_rfl) (by kernel_rfl) (by kernel_rfl) (fun _ _ _ _ h => h) (by rfl) HS ?_
            (try simp only [Act.put, List.setIfInBounds_toArray, List.set_cons_zero, List.set_cons_succ])
            refine takeV (i := 9) (v := ?_) rfl (by kernel_rfl) (by kernel_rfl) (by kernel_rfl) (fun _ _ _ h => h) (by rfl) ?_ HS ?_
            rotate_left
            · (intro W hW; go_simp; try with_reducible rfl)
            (try simp only [Act.put, List.setIfInBounds_toArray, List.set_cons_zero, List.set_cons_succ])
            refine branchH [10, 13] (by kernel_rfl) (by kernel_rfl) (AllStep.cons ?_ (AllStep.cons ?_ AllStep.nil))
            · refine stepH_do (i := 10) rfl (by rfl) ?_
              refine wp_call_st rfl Try.func10 (by kernel_rfl) (by kernel_rfl) _ ?_ ((PA.out _).mono ?_)
              · rfl
              rintro ed wy ⟨rfl, rfl⟩
              replace HS := HS.of H
              refine ⟨_, rfl, HS, ?_⟩
              (try simp only [Act.put, List.setIfInBounds_toArray, List.set_cons_zero, List.set_cons_succ])
              refine takeV (i := 11) (v := ?_) rfl (by kernel_rfl) (by kernel_rfl) (by kernel_rfl) (fun _ _ _ h => h) (by rfl) ?_ HS ?_
              rotate_left
              · (intro W hW; go_simp; try with_reducible rfl)
              (try simp only [Act.put, List.setIfInBounds_toArray, List.set_cons_zero, List.set_cons_succ])
              refine takeV (i := 12) (v := .agg #[.int .i64 1, .int .i64 1, .int .i64 id, .int .i64 body, .int .i64 0, .int .i64 0]) rfl (by kernel_rfl) (by kernel_rfl) (by kernel_rfl) (fun _ _ _ h => h) (by rfl) ?_ HS ?_
              · intro W hW
                obtain ⟨b7, off7, hA7, _, q0, q1, q2, q3, q4, q5⟩ := QA.out W (hW.get (evIt (some ⟨b9, off9, none⟩) (wEv 1 ws)))
                obtain ⟨rfl, rfl⟩ : b9 = b7 ∧ off9 = off7 := by cases hA7; exact ⟨rfl, rfl⟩
                try dsimp only at q0 q1 q2 q3 q4 q5
                go_simp
                try with_reducible rfl
              (try simp only [Act.put, List.setIfInBounds_toArray, List.set_cons_zero, List.set_cons_succ])
              refine branchH [13] (by kernel_rfl) (by kernel_rfl) (AllStep.cons ?_ AllStep.nil)
              refine stepH_do (i := 13) rfl (by rfl) ?_
              refine wp_alloc_st H 44 rfl _ ev_zero ?_
              clear H
              intro ge5 wx H
              replace HS := HS.of H
              refine ⟨HS, ?_⟩
              (try simp only [Act.put, List.setIfInBounds_toArray, List.set_cons_zero, List.set_cons_succ])
              refine branchH [14] (by kernel_rfl) (by kernel_rfl) (AllStep.cons ?_ AllStep.nil)
              refine stepH_do (i := 14) rfl (by rfl) ?_
              refine wp_store_st H 44 _ _ rfl rfl rfl (by kernel_rfl) (by rfl) (by kernel_rfl) ?_
              clear H
              intro wx H
              replace HS := HS.of H
              refine ⟨HS, ?_⟩
              (try simp only [Act.put])
              refine doneH (by kernel_rfl) ?_
              cases b
              · go_wp2_with (first | (go_at_call 13; (with_reducible refine (SE.out _ _ H).mono ?_); clear H; rintro ed wy ⟨rfl, H⟩) | ((with_reducible refine here_load ?_); refine wpList_loadPart_stG (p := 14) (m := 9) H (by rfl) 34 _ rfl rfl row_Window (by kernel_rfl) (by kernel_rfl) _ (qArr_win1 q A1 c1 A2 c2) ?_) | (first | ((with_reducible refine here_load ?_); first | refine ldR H rfl _ _ rfl rfl (by kernel_rfl) ?_ | refine ldS H rfl _ _ rfl rfl (by rfl) ?_ | refine ldSG H (by rfl) _ _ rfl rfl (by rfl) ?_ | refine ldRG H (by rfl) _ _ rfl rfl (by kernel_rfl) ?_) | ((with_reducible refine here_store ?_); first | (refine stR H rfl _ _ _ rfl rfl rfl (by rfl) (by rfl) (by kernel_rfl) ?_; clear H; intro wx H) | (refine stS H rfl _ _ _ rfl rfl _ rfl (by rfl) (by rfl) (by rfl) ?_; clear H; intro wx H)) | ((with_reducible refine here_alloc ?_); first | (refine wpList_alloc_st H rfl 37 rfl _ q_zero ?_; clear H; intro gq6 wx H) | (refine wpList_alloc_st H rfl 48 rfl _ ans_zero ?_; clear H; intro ga6 wx H) | (refine wpList_alloc_st H rfl 44 rfl _ ev_zero ?_; clear H; intro ge6 wx H) | (refine wpList_alloc_st H rfl 26 rfl _ cli_zero ?_; clear H; intro gl6 wx H)) | ((with_reducible refine here_box ?_); refine wpList_box_st H rfl _ _ rfl _ rfl ?_; clear H; intro gb6 wx H)))
                go_roundw
                case rel => exact ⟨i + 1, sent, ws, n, some ⟨b9, off9, none⟩, c, q, A1, c1, A2, c2, rfl, by go_num, by have := HIN.out; omega, HCS.out.next HI8.out, HL.out, hnc, hq1, hq2, H.subm _⟩
                case measure => have := HI8.out; simp [intOf] <;> omega
              · go_wp2_with (first | (go_at_call 13; (with_reducible refine (SE.out _ _ H).mono ?_); clear H; rintro ed wy ⟨rfl, H⟩) | ((with_reducible refine here_load ?_); refine wpList_loadPart_stG (p := 14) (m := 9) H (by rfl) 34 _ rfl rfl row_Window (by kernel_rfl) (by kernel_rfl) _ (qArr_win1 q A1 c1 A2 c2) ?_) | (go_at_call 14; (with_reducible refine (CDN.out _ _ H inferInstance).mono ?_); clear H; rintro ed wy ⟨A', c', rfl, hc', H⟩) | (first | ((with_reducible refine here_load ?_); first | refine ldR H rfl _ _ rfl rfl (by kernel_rfl) ?_ | refine ldS H rfl _ _ rfl rfl (by rfl) ?_ | refine ldSG H (by rfl) _ _ rfl rfl (by rfl) ?_ | refine ldRG H (by rfl) _ _ rfl rfl (by kernel_rfl) ?_) | ((with_reducible refine here_store ?_); first | (refine stR H rfl _ _ _ rfl rfl rfl (by rfl) (by rfl) (by kernel_rfl) ?_; clear H; intro wx H) | (refine stS H rfl _ _ _ rfl rfl _ rfl (by rfl) (by rfl) (by rfl) ?_; clear H; intro wx H)) | ((with_reducible refine here_alloc ?_); first | (refine wpList_alloc_st H rfl 37 rfl _ q_zero ?_; clear H; intro gq7 wx H) | (refine wpList_alloc_st H rfl 48 rfl _ ans_zero ?_; clear H; intro ga7 wx H) | (refine wpList_alloc_st H rfl 44 rfl _ ev_zero ?_; clear H; intro ge7 wx H) | (refine wpList_alloc_st H rfl 26 rfl _ cli_zero ?_; clear H; intro gl7 wx H)) | ((with_reducible refine here_box ?_); refine wpList_box_st H rfl _ _ rfl _ rfl ?_; clear H; intro gb7 wx H)))
                go_roundw
                case rel => exact ⟨i + 1, sent, ws.take k ++ ws.drop (k + 1), n - 1, A', c', q, A1, c1, A2, c2, rfl, by go_num, by have := HIN.out; omega, HDN.out, HLD.out, hc', hq1, hq2, H.subm _⟩
                case measure => have := HI8.out; simp [intOf] <;> omega
            · refine stepH_do (i := 13) rfl (by rfl) ?_
              refine wp_alloc_st H 44 rfl _ ev_zero ?_
              clear H
              intro ge5 wx H
              replace HS := HS.of H
              refine ⟨HS, ?_⟩
              (try simp only [Act.put, List.setIfInBounds_toArray, List.set_cons_zero, List.set_cons_succ])
              refine branchH [10] (by kernel_rfl) (by kernel_rfl) (AllStep.cons ?_ AllStep.nil)
              refine stepH_do (i := 10) rfl (by rfl) ?_
              refine wp_call_st rfl Try.func10 (by kernel_rfl) (by kernel_rfl) _ ?_ ((PA.out _).mono ?_)
              · rfl
              rintro ed wy ⟨rfl, rfl⟩
              replace HS := HS.of H
              refine ⟨_, rfl, HS, ?_⟩
              (try simp only [Act.put, List.setIfInBounds_toArray, List.set_cons_zero, List.set_cons_succ])
              refine takeV (i := 11) (v := ?_) rfl (by kernel_rfl) (by kernel_rfl) (by kernel_rfl) (fun _ _ _ h => h) (by rfl) ?_ HS ?_
              rotate_left
              · (intro W hW; go_simp; try with_reducible rfl)
              (try simp only [Act.put, List.setIfInBounds_toArray, List.set_cons_zero, List.set_cons_succ])
              refine takeV (i := 12) (v := .agg #[.int .i64 1, .int .i64 1, .int .i64 id, .int .i64 body, .int .i64 0, .int .i64 0]) rfl (by kernel_rfl) (by kernel_rfl) (by kernel_rfl) (fun _ _ _ h => h) (by rfl) ?_ HS ?_
              · intro W hW
                obtain ⟨b7, off7, hA7, _, q0, q1, q2, q3, q4, q5⟩ := QA.out W (hW.get (evIt (some ⟨b9, off9, none⟩) (wEv 1 ws)))
                obtain ⟨rfl, rfl⟩ : b9 = b7 ∧ off9 = off7 := by cases hA7; exact ⟨rfl, rfl⟩
                try dsimp only at q0 q1 q2 q3 q4 q5
                go_simp
                try with_reducible rfl
              (try simp only [Act.put, List.setIfInBounds_toArray, List.set_cons_zero, List.set_cons_succ])
              refine branchH [14] (by kernel_rfl) (by kernel_rfl) (AllStep.cons ?_ AllStep.nil)
              refine stepH_do (i := 14) rfl (by rfl) ?_
              refine wp_store_st H 44 _ _ rfl rfl rfl (by kernel_rfl) (by rfl) (by kernel_rfl) ?_
              clear H
              intro wx H
              replace HS := HS.of H
              refine ⟨HS, ?_⟩
              (try simp only [Act.put])
              refine doneH (by kernel_rfl) ?_
              cases b
              · go_wp2_with (first | (go_at_call 13; (with_reducible refine (SE.out _ _ H).mono ?_); clear H; rintro ed wy ⟨rfl, H⟩) | ((with_reducible refine here_load ?_); refine wpList_loadPart_stG (p := 14) (m := 9) H (by rfl) 34 _ rfl rfl row_Window (by kernel_rfl) (by kernel_rfl) _ (qArr_win1 q A1 c1 A2 c2) ?_) | (first | ((with_reducible refine here_load ?_); first | refine ldR H rfl _ _ rfl rfl (by kernel_rfl) ?_ | refine ldS H rfl _ _ rfl rfl (by rfl) ?_ | refine ldSG H (by rfl) _ _ rfl rfl (by rfl) ?_ | refine ldRG H (by rfl) _ _ rfl rfl (by kernel_rfl) ?_) | ((with_reducible refine here_store ?_); first | (refine stR H rfl _ _ _ rfl rfl rfl (by rfl) (by rfl) (by kernel_rfl) ?_; clear H; intro wx H) | (refine stS H rfl _ _ _ rfl rfl _ rfl (by rfl) (by rfl) (by rfl) ?_; clear H; intro wx H)) | ((with_reducible refine here_alloc ?_); first | (refine wpList_alloc_st H rfl 37 rfl _ q_zero ?_; clear H; intro gq6 wx H) | (refine wpList_alloc_st H rfl 48 rfl _ ans_zero ?_; clear H; intro ga6 wx H) | (refine wpList_alloc_st H rfl 44 rfl _ ev_zero ?_; clear H; intro ge6 wx H) | (refine wpList_alloc_st H rfl 26 rfl _ cli_zero ?_; clear H; intro gl6 wx H)) | ((with_reducible refine here_box ?_); refine wpList_box_st H rfl _ _ rfl _ rfl ?_; clear H; intro gb6 wx H)))
                go_roundw
                case rel => exact ⟨i + 1, sent, ws, n, some ⟨b9, off9, none⟩, c, q, A1, c1, A2, c2, rfl, by go_num, by have := HIN.out; omega, HCS.out.next HI8.out, HL.out, hnc, hq1, hq2, H.subm _⟩
                case measure => have := HI8.out; simp [intOf] <;> omega
              · go_wp2_with (first | (go_at_call 13; (with_reducible refine (SE.out _ _ H).mono ?_); clear H; rintro ed wy ⟨rfl, H⟩) | ((with_reducible refine here_load ?_); refine wpList_loadPart_stG (p := 14) (m := 9) H (by rfl) 34 _ rfl rfl row_Window (by kernel_rfl) (by kernel_rfl) _ (qArr_win1 q A1 c1 A2 c2) ?_) | (go_at_call 14; (with_reducible refine (CDN.out _ _ H inferInstance).mono ?_); clear H; rintro ed wy ⟨A', c', rfl, hc', H⟩) | (first | ((with_reducible refine here_load ?_); first | refine ldR H rfl _ _ rfl rfl (by kernel_rfl) ?_ | refine ldS H rfl _ _ rfl rfl (by rfl) ?_ | refine ldSG H (by rfl) _ _ rfl rfl (by rfl) ?_ | refine ldRG H (by rfl) _ _ rfl rfl (by kernel_rfl) ?_) | ((with_reducible refine here_store ?_); first | (refine stR H rfl _ _ _ rfl rfl rfl (by rfl) (by rfl) (by kernel_rfl) ?_; clear H; intro wx H) | (refine stS H rfl _ _ _ rfl rfl _ rfl (by rfl) (by rfl) (by rfl) ?_; clear H; intro wx H)) | ((with_reducible refine here_alloc ?_); first | (refine wpList_alloc_st H rfl 37 rfl _ q_zero ?_; clear H; intro gq7 wx H) | (refine wpList_alloc_st H rfl 48 rfl _ ans_zero ?_; clear H; intro ga7 wx H) | (refine wpList_alloc_st H rfl 44 rfl _ ev_zero ?_; clear H; intro ge7 wx H) | (refine wpList_alloc_st H rfl 26 rfl _ cli_zero ?_; clear H; intro gl7 wx H)) | ((with_reducible refine here_box ?_); refine wpList_box_st H rfl _ _ rfl _ rfl ?_; clear H; intro gb7 wx H)))
                go_roundw
                case rel => exact ⟨i + 1, sent, ws.take k ++ ws.drop (k + 1), n - 1, A', c', q, A1, c1, A2, c2, rfl, by go_num, by have := HIN.out; omega, HDN.out, HLD.out, hc', hq1, hq2, H.subm _⟩
                case measure => have := HI8.out; simp [intOf] <;> omega
    · have f1 : (q.nx : Int) ≤ (sent : Int) := hqn
      have f2 := decide_eq_true f1
      have f3 : (n : Int) ≤ 8 := by omega
      have f4 := decide_eq_true f3
      have CK := Lib.hid (fun W J (H : St w W J) (hI : Has J (evIt A (wEv 1 ws))) => ccheck_st (hI := hI) (w0 := w) (w := W) (I := J) sent A n c ws HCS.out.ok HL.out (by omega) H)
      clear hl hcs hqn
      by_cases hn : i < n0
      · have e1 : (i : Int) < (n0 : Int) := by omega
        have e2 := decide_eq_true e1
        have e3 : ¬ (i : Int) < 80 := by omega
        have e4 := decide_eq_false e3
        clear hlt hn hin
        go_wp2_with (first | (go_at_call 15; (with_reducible refine (CK.out _ _ H inferInstance).mono ?_); clear H; rintro ed wy ⟨rfl, H⟩) | (first | ((with_reducible refine here_load ?_); first | refine ldR H rfl _ _ rfl rfl (by kernel_rfl) ?_ | refine ldS H rfl _ _ rfl rfl (by rfl) ?_ | refine ldSG H (by rfl) _ _ rfl rfl (by rfl) ?_ | refine ldRG H (by rfl) _ _ rfl rfl (by kernel_rfl) ?_) | ((with_reducible refine here_store ?_); first | (refine stR H rfl _ _ _ rfl rfl rfl (by rfl) (by rfl) (by kernel_rfl) ?_; clear H; intro wx H) | (refine stS H rfl _ _ _ rfl rfl _ rfl (by rfl) (by rfl) (by rfl) ?_; clear H; intro wx H)) | ((with_reducible refine here_alloc ?_); first | (refine wpList_alloc_st H rfl 37 rfl _ q_zero ?_; clear H; intro gq9 wx H) | (refine wpList_alloc_st H rfl 48 rfl _ ans_zero ?_; clear H; intro ga9 wx H) | (refine wpList_alloc_st H rfl 44 rfl _ ev_zero ?_; clear H; intro ge9 wx H) | (refine wpList_alloc_st H rfl 26 rfl _ cli_zero ?_; clear H; intro gl9 wx H)) | ((with_reducible refine here_box ?_); refine wpList_box_st H rfl _ _ rfl _ rfl ?_; clear H; intro gb9 wx H)))
        go_ret
        exact ⟨rfl, H.bel⟩
      · have e1 : ¬ (i : Int) < (n0 : Int) := by omega
        have e2 := decide_eq_false e1
        clear hlt hn hin
        go_wp2_with (first | (go_at_call 15; (with_reducible refine (CK.out _ _ H inferInstance).mono ?_); clear H; rintro ed wy ⟨rfl, H⟩) | (first | ((with_reducible refine here_load ?_); first | refine ldR H rfl _ _ rfl rfl (by kernel_rfl) ?_ | refine ldS H rfl _ _ rfl rfl (by rfl) ?_ | refine ldSG H (by rfl) _ _ rfl rfl (by rfl) ?_ | refine ldRG H (by rfl) _ _ rfl rfl (by kernel_rfl) ?_) | ((with_reducible refine here_store ?_); first | (refine stR H rfl _ _ _ rfl rfl rfl (by rfl) (by rfl) (by kernel_rfl) ?_; clear H; intro wx H) | (refine stS H rfl _ _ _ rfl rfl _ rfl (by rfl) (by rfl) (by rfl) ?_; clear H; intro wx H)) | ((with_reducible refine here_alloc ?_); first | (refine wpList_alloc_st H rfl 37 rfl _ q_zero ?_; clear H; intro gq9 wx H) | (refine wpList_alloc_st H rfl 48 rfl _ ans_zero ?_; clear H; intro ga9 wx H) | (refine wpList_alloc_st H rfl 44 rfl _ ev_zero ?_; clear H; intro ge9 wx H) | (refine wpList_alloc_st H rfl 26 rfl _ cli_zero ?_; clear H; intro gl9 wx H)) | ((with_reducible refine here_box ?_); refine wpList_box_st H rfl _ _ rfl _ rfl ?_; clear H; intro gb9 wx H)))
        go_ret
        exact ⟨rfl, H.bel⟩


end Go.Proofs.Ytjmncbfmjeeneaa

namespace Go.Proofs.Ytjmncbfmjeeneaa.lawClientSafe
open Go.ChangeShapes Go.WideShapes Go.ChangeAt Go.RowKit Go.Joins
open Go.ChangeMaps (open_string shut_string)
set_option linter.unusedVariables false

theorem own : ownKnob Try.prog.godebug = none := by kernel_rfl
theorem laidOut : laidOutB Try.prog = true := by kernel_rfl

set_option maxRecDepth 100000 in
theorem lifted (os : Os) (started : os.Started) (H : Type) (enc : TypeId × Value → H) :
    ReturnsInHanded {} Try.checked os 3 .any (Rows.clientSafeSpec.pre6 enc Try.prog Try.f3 Rows.clientSafeRow.domain false) (Rows.clientSafeSpec.post enc Try.prog Try.f3 false true false false) := by
  refine returnsInHanded_of_change_sized (C := Try.checked) own started (by kernel_rfl) Try.func3
    (ChangeSpec.witness6 (enc := enc) (C := Try.checked) false ⟨#[], #[.slice none 0 0], []⟩ 12 (by kernel_rfl) (by kernel_rfl) (by kernel_rfl) (by kernel_rfl)) ?_
  intro W base args ds gs before hval0 hW hcnd hsz0 _
  have hval : ∀ (j : Nat) t v, Try.f3.params[j]? = some t → args[j]? = some v → Value.okWide Try.prog W .any base t v := hval0
  have hsz : (DataW.weightsEach Try.prog (Try.f3.params.toList ++ Rows.clientSafeSpec.plain.varTypes Try.prog) (ds ++ gs)).all (· ≤ reachBytes) = true := hsz0
  have hW' := hW
  obtain ⟨p, q, hA0, hV, rfl, hfz, hnd⟩ := hW
  have hA : DataW.TrodAll enc Try.prog W 0 (fun _ => true) true Try.f3.params.toList args.toList ds p := hA0
  rw [Try.params3] at hA hval hsz
  obtain ⟨v0, vs0, d0, ds0, p0, q0, hargs, rfl, rfl, h0, r0⟩ := trodAll_cons hA
  obtain ⟨rfl, rfl, rfl⟩ := trodAll_nil r0
  obtain rfl : args = #[v0] := by cases args; simp_all
  obtain ⟨rfl, rfl⟩ := trodVars_none hV
  have k0 := h0
  have lt0 : ∀ x ∈ p0, x.block < W.heap.size := by obtain ⟨m, hm⟩ := k0; exact DataW.trod_lt m _ _ _ hm
  obtain ⟨A0, n0, c0, z0, rfl, b0⟩ := view_rows (ti := 3) (B := 16) Try.underlying22 Try.underlying40 (by kernel_rfl) (by kernel_rfl) (by kernel_rfl) (by intro j f h; match j, h with | 0, h => (simp at h; subst h; rfl) | 1, h => (simp at h; subst h; rfl) | j + 2, h => simp at h) Try.underlying3 (by decide) (hval 0 22 v0 rfl rfl) h0 hsz (j := 0) rfl rfl
  clear hA0 hval0 hsz0
  refine (clientSafe_walk A0 n0 c0 z0 W b0).mono fun e W' ⟨he, bel⟩ => ?_
  subst he
  exact ⟨_, rfl, _, _, _, [], _, [], hW', trodAll_mk1 (shut_bool Try.underlying4 _), (trodAll_cons_mk (Below.trod laidOut (by kernel_rfl) (of_decide_eq_true (by kernel_rfl)) k0 bel lt0) trodAll_mk0), rfl, bel.frame _, fun h => by cases h⟩

theorem over : Rows.clientSafeRow.holds Try.pinned (OpenSpec.ofChange Rows.clientSafeSpec) :=
  OpenClaim.holds_of_wide 3 Try.f3 rfl rfl rfl rfl rfl rfl rfl ⟨rfl, rfl, rfl, rfl, rfl⟩ rfl rfl rfl rfl rfl (by kernel_rfl) Try.func3 (by kernel_rfl)
    (of_decide_eq_true (by kernel_rfl)) (by unfold Func.isWrapper; first | (rw [if_pos (by decide +kernel)]; kernel_rfl) | (rw [if_neg (by decide +kernel)]; exact ⟨rfl, rfl⟩))
    (fun os started H enc _ => lifted os started H enc)

theorem proved : Rows.ClientSafeSaid := over
#print axioms proved
end Go.Proofs.Ytjmncbfmjeeneaa.lawClientSafe
