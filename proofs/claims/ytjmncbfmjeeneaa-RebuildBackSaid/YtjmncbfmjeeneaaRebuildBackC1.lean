/- RebuildBack: for every input the law returns true. The walk lies in XLawRebuildBack; here the row's frame. Conditions: none. -/
import Derived.Test.YtjmncbfmjeeneaaRows
import Derived.OpenShut
import Derived.ChangeOld
import Derived.Test.YtjmncbfmjeeneaaRB8

namespace Go.Proofs.Ytjmncbfmjeeneaa
open Go.RowKit

set_option maxRecDepth 100000 in
set_option maxHeartbeats 8000000 in
theorem rebuildBack_walk (ep : Int) (A : Option Addr) (n c : Nat) (rows : List (List Int)) (qq : Int) (sl : Bool) (w : World) (h0 : Is64 ep) (h : IsRows 4 32 w A n c rows) (h2 : Is64 qq) :
    Calls Try.prog 6 #[.int .i64 ep, .slice A n c, .int .i64 qq, .bool sl] w fun e w' => e = .returned (.bool true) ∧ Below w.heap.size w w' := by
  have H := St.start w
  have SV0 := fun W J (H : St w W J) => served_st (w0 := w) (w := W) (I := J) ep A n c 40 rows h0 h (by omega) H
  have p0 := pick_lo ep 1000 (by omega)
  have p1 := pick_hi ep 1000 (by omega)
  obtain ⟨q, hq⟩ : ∃ q, 1 + pick ep 1000 = q := ⟨_, rfl⟩
  rw [hq] at SV0
  have hq1 : 1 ≤ q := by omega
  have hq2 : q ≤ 1000 := by omega
  clear hq p0 p1
  obtain ⟨es, hsv, hm0, hx0, hnb0⟩ := served_is q rows hq1 (by omega) (min n 40)
  rw [hsv] at SV0
  have hm : es.length ≤ 40 := by omega
  have HX := Lib.hid (hx0.more (show min n 40 ≤ 40 by omega))
  obtain ⟨m, hl⟩ : ∃ m, es.length = m := ⟨_, rfl⟩
  rw [hl] at hm
  have SV := Lib.hid (fun W J (H : St w W J) => (show Calls Try.prog 16 #[.int .i64 ep, .slice A n c, .int .i64 40] W (fun ed w' => ∃ A c, ed = .returned (.tuple #[.agg #[.int .i64 1, .int .i64 q, .int .i64 0, .int .i64 0, .int .i64 0, .slice A m c], .bool true]) ∧ m ≤ c ∧ St w w' (evIt A es :: J)) from vpost_to hl (SV0 W J H)))
  have HL := Lib.hid hl
  have HZ := Lib.hid (BM.zero_ok)
  have HNB := Lib.hid hnb0
  have HL0 := Lib.hid (show ([] : List Ev).length = 0 from rfl)
  clear SV0 hsv hm0 hx0 hl hnb0
  have PK := Lib.hid (fun W => (picked_any qq 4 W (h2).1 (h2).2 (by omega) (by omega)).mono (fun e w' h => (⟨h.1, h.2.symm⟩ : e = .returned (.int .i64 (pick qq 4)) ∧ w' = W)))
  have k_l := pick_lo qq 4 (by omega)
  have k_h := pick_hi qq 4 (by omega)
  obtain ⟨k_, hk_⟩ : ∃ x, pick qq 4 = x := ⟨_, rfl⟩
  rw [hk_] at PK k_l k_h
  clear hk_
  obtain ⟨k, rfl⟩ : ∃ x : Nat, k_ = (x : Int) := ⟨k_.toNat, by omega⟩
  have hk : k < 4 := by omega
  have C1 := Lib.hid (fun W J (H : St w W J) A c (hc : m ≤ c) (hI : Has J (evIt A es)) => (show Calls Try.prog 21 #[.agg #[.int .i64 1, .int .i64 q, .int .i64 0, .int .i64 0, .int .i64 0, .slice A m c], .int .i64 4] W (fun ed w' => ∃ A' c', ed = .returned (.tuple #[.agg #[.int .i64 2, .int .i64 q, .int .i64 0, .int .i64 4, .int .i64 0, .slice A' m c'], .int .i64 0]) ∧ m ≤ c' ∧ St w w' (evIt A' es :: J)) from by
    have h := go_st (h := hI) (w0 := w) (w := W) (I := J) ⟨1, q, 0, 0, 0, es⟩ A m c 40 4 HL.out HX.out (by omega) hc H
    rw [show BM.goR ⟨1, q, 0, 0, 0, es⟩ (4) = (⟨2, q, 0, 4, 0, es⟩, 0) from (by have hl := HL.out; unfold BM.goR; dsimp only; repeat (first | rw [if_pos (by omega)] | rw [if_neg (by omega)]); try rfl)] at h
    exact bpost_to HL.out h))
  have HY := Lib.hid (show (⟨2, q, 0, 4, 0, es⟩ : BM).Ok 40 from by have h := HX.out.goR (4); rw [show BM.goR ⟨1, q, 0, 0, 0, es⟩ (4) = (⟨2, q, 0, 4, 0, es⟩, 0) from (by have hl := HL.out; unfold BM.goR; dsimp only; repeat (first | rw [if_pos (by omega)] | rw [if_neg (by omega)]); try rfl)] at h; exact h)
  have C2 := Lib.hid (fun W J (H : St w W J) A c (hc : m ≤ c) (hI : Has J (evIt A es)) => (show Calls Try.prog 22 #[.agg #[.int .i64 2, .int .i64 q, .int .i64 0, .int .i64 4, .int .i64 0, .slice A m c], .int .i64 m] W (fun ed w' => ∃ A' c', ed = .returned (.tuple #[.agg #[.int .i64 3, .int .i64 q, .int .i64 0, .int .i64 4, .int .i64 0, .slice A' m c'], .int .i64 0]) ∧ m ≤ c' ∧ St w w' (evIt A' es :: J)) from by
    have h := caught_st (h := hI) (w0 := w) (w := W) (I := J) ⟨2, q, 0, 4, 0, es⟩ A m c 40 m HL.out HY.out (by omega) hc H
    rw [show BM.caughtR ⟨2, q, 0, 4, 0, es⟩ (m) = (⟨3, q, 0, 4, 0, es⟩, 0) from (by have hl := HL.out; unfold BM.caughtR BM.caught; dsimp only; repeat (first | rw [if_pos (by omega)] | rw [if_neg (by omega)]); try rfl)] at h
    exact bpost_to HL.out h))
  have HLH := Lib.hid (show (histOf k q es).length = m + 1 from by rw [histOf_len, HL.out])
  have HLS := Lib.hid (show (histOf (k : Int) q es ++ [(⟨3, (k : Int), q, 4, Ev.zero⟩ : Rc)]).length = m + 2 from by rw [List.length_append, HLH.out]; rfl)
  have CR1 := Lib.hid (fun W J (H : St w W J) A c (hc : m ≤ c) (hI : Has J (evIt A es)) => records_to (h := hI) (w0 := w) (w := W) (I := J) k 1 q 0 0 0 es A m c (m + 1) (histOf (k : Int) q es) rfl HLH.out HL.out (by omega) hc H)
  have CR2 := Lib.hid (fun W J (H : St w W J) A c (hc : m ≤ c) (hI : Has J (evIt A es)) => records_to (h := hI) (w0 := w) (w := W) (I := J) k 3 q 0 4 0 es A m c (m + 2) (histOf (k : Int) q es ++ [(⟨3, (k : Int), q, 4, Ev.zero⟩ : Rc)]) rfl HLS.out HL.out (by omega) hc H)
  have CA1 := Lib.hid (fun W J (H : St w W J) A c (hc : m + 1 ≤ c) (hI : Has J (rcIt A (histOf (k : Int) q es))) => all_one (h := hI) (w0 := w) (w := W) (I := J) k hk (histOf (k : Int) q es) (actS q es) 1 q 0 0 0 es m (m + 1) HL.out HLH.out (by omega) (hist_chain k hk q es 40 HX.out (by omega) hq1 (by omega)) rfl (by rw [actS_at _ _ _ (by omega), Nat.add_sub_cancel, List.take_of_length_le (Nat.le_of_eq HL.out)]) A c hc H)
  have CA2 := Lib.hid (fun W J (H : St w W J) A c (hc : m + 2 ≤ c) (hI : Has J (rcIt A (histOf (k : Int) q es ++ [(⟨3, (k : Int), q, 4, Ev.zero⟩ : Rc)]))) => all_one (h := hI) (w0 := w) (w := W) (I := J) k hk (histOf (k : Int) q es ++ [(⟨3, (k : Int), q, 4, Ev.zero⟩ : Rc)]) (fun i => if i ≤ (histOf k q es).length then actS q es i else ⟨3, q, 0, 4, 0, es⟩) 3 q 0 4 0 es m (m + 2) HL.out HLS.out (by omega) (seal_chain k hk q 4 es 40 HX.out (by omega) hq1 (by omega) (by omega)) rfl (by rw [if_neg (by rw [HLH.out]; omega)]) A c hc H)
  clear h0 h h2
  cases sl
  · go_enter Try.func6, Try.ntmps6
    go_upto_region 2 with (first | (go_at_call 16; with_reducible refine (SV.out _ _ H).mono ?_; clear H; rintro ed wy ⟨Ax, cx, rfl, hcx, H⟩) | (first | ((with_reducible refine here_load ?_); first | refine ldR H rfl _ _ rfl rfl (by kernel_rfl) ?_ | refine ldS H rfl _ _ rfl rfl (by rfl) ?_ | refine ldSG H (by rfl) _ _ rfl rfl (by rfl) ?_ | refine ldRG H (by rfl) _ _ rfl rfl (by kernel_rfl) ?_) | ((with_reducible refine here_store ?_); first | (refine stR H rfl _ _ _ rfl rfl rfl (by rfl) (by rfl) (by kernel_rfl) ?_; clear H; intro wx H) | (refine stS H rfl _ _ _ rfl rfl _ rfl (by rfl) (by rfl) (by rfl) ?_; clear H; intro wx H)) | ((with_reducible refine here_alloc ?_); first | (refine wpList_alloc_st H rfl 37 rfl _ q_zero ?_; clear H; intro gqx wx H) | (refine wpList_alloc_st H rfl 48 rfl _ ans_zero ?_; clear H; intro gax wx H) | (refine wpList_alloc_st H rfl 44 rfl _ ev_zero ?_; clear H; intro gex wx H) | (refine wpList_alloc_st H rfl 58 rfl _ ber_zero ?_; clear H; intro grx wx H)) | ((with_reducible refine here_box ?_); refine wpList_box_st H rfl _ _ rfl _ rfl ?_; clear H; intro gbx wx H)))
    (try simp only [Act.put])
    go_upto_region 8 with (first | (first | ((with_reducible refine here_load ?_); first | refine ldR H rfl _ _ rfl rfl (by kernel_rfl) ?_ | refine ldS H rfl _ _ rfl rfl (by rfl) ?_ | refine ldSG H (by rfl) _ _ rfl rfl (by rfl) ?_ | refine ldRG H (by rfl) _ _ rfl rfl (by kernel_rfl) ?_) | ((with_reducible refine here_store ?_); first | (refine stR H rfl _ _ _ rfl rfl rfl (by rfl) (by rfl) (by kernel_rfl) ?_; clear H; intro wx H) | (refine stS H rfl _ _ _ rfl rfl _ rfl (by rfl) (by rfl) (by rfl) ?_; clear H; intro wx H)) | ((with_reducible refine here_alloc ?_); first | (refine wpList_alloc_st H rfl 37 rfl _ q_zero ?_; clear H; intro gq2 wx H) | (refine wpList_alloc_st H rfl 48 rfl _ ans_zero ?_; clear H; intro ga2 wx H) | (refine wpList_alloc_st H rfl 44 rfl _ ev_zero ?_; clear H; intro ge2 wx H) | (refine wpList_alloc_st H rfl 58 rfl _ ber_zero ?_; clear H; intro gr2 wx H)) | ((with_reducible refine here_box ?_); refine wpList_box_st H rfl _ _ rfl _ rfl ?_; clear H; intro gb2 wx H)))
    (try simp only [Act.put])
    go_upto_region 9 with (first | (go_at_call 10; with_reducible refine (PK.out _).mono ?_; rintro ed wy ⟨rfl, rfl⟩) | (first | ((with_reducible refine here_load ?_); first | refine ldR H rfl _ _ rfl rfl (by kernel_rfl) ?_ | refine ldS H rfl _ _ rfl rfl (by rfl) ?_ | refine ldSG H (by rfl) _ _ rfl rfl (by rfl) ?_ | refine ldRG H (by rfl) _ _ rfl rfl (by kernel_rfl) ?_) | ((with_reducible refine here_store ?_); first | (refine stR H rfl _ _ _ rfl rfl rfl (by rfl) (by rfl) (by kernel_rfl) ?_; clear H; intro wx H) | (refine stS H rfl _ _ _ rfl rfl _ rfl (by rfl) (by rfl) (by rfl) ?_; clear H; intro wx H)) | ((with_reducible refine here_alloc ?_); first | (refine wpList_alloc_st H rfl 37 rfl _ q_zero ?_; clear H; intro gq7 wx H) | (refine wpList_alloc_st H rfl 48 rfl _ ans_zero ?_; clear H; intro ga7 wx H) | (refine wpList_alloc_st H rfl 44 rfl _ ev_zero ?_; clear H; intro ge7 wx H) | (refine wpList_alloc_st H rfl 58 rfl _ ber_zero ?_; clear H; intro gr7 wx H)) | ((with_reducible refine here_box ?_); refine wpList_box_st H rfl _ _ rfl _ rfl ?_; clear H; intro gb7 wx H)))
    (try simp only [Act.put])
    go_upto_region 10 with (first | (go_at_call 17; (with_reducible refine (CR1.out _ _ H Ax cx hcx inferInstance).mono ?_); clear H; rintro ed wy ⟨A9, c9, rfl, hc9, hc9', H⟩; replace H := H.frzRc HLH.out) | (go_at_call 18; (with_reducible refine (CA1.out _ _ H A9 c9 hc9 inferInstance).mono ?_); clear H; rintro ed wy ⟨go, A8, c8, cs, rfl, hc, hz, hx, hr, he, hv, H⟩) | (first | ((with_reducible refine here_load ?_); first | refine ldR H rfl _ _ rfl rfl (by kernel_rfl) ?_ | refine ldS H rfl _ _ rfl rfl (by rfl) ?_ | refine ldSG H (by rfl) _ _ rfl rfl (by rfl) ?_ | refine ldRG H (by rfl) _ _ rfl rfl (by kernel_rfl) ?_) | ((with_reducible refine here_store ?_); first | (refine stR H rfl _ _ _ rfl rfl rfl (by rfl) (by rfl) (by kernel_rfl) ?_; clear H; intro wx H) | (refine stS H rfl _ _ _ rfl rfl _ rfl (by rfl) (by rfl) (by rfl) ?_; clear H; intro wx H)) | ((with_reducible refine here_alloc ?_); first | (refine wpList_alloc_st H rfl 37 rfl _ q_zero ?_; clear H; intro gq8 wx H) | (refine wpList_alloc_st H rfl 48 rfl _ ans_zero ?_; clear H; intro ga8 wx H) | (refine wpList_alloc_st H rfl 44 rfl _ ev_zero ?_; clear H; intro ge8 wx H) | (refine wpList_alloc_st H rfl 58 rfl _ ber_zero ?_; clear H; intro gr8 wx H)) | ((with_reducible refine here_box ?_); refine wpList_box_st H rfl _ _ rfl _ rfl ?_; clear H; intro gb8 wx H)))
    (try simp only [Act.put])
    have k6 : (0 : Int) ≤ (k : Int) := by omega
    have k7 : (k : Int) < 4 := by omega
    have HEX := Lib.hid hx
    have HRO := Lib.hid hr
    clear hx hr he hv
    refine startS (H.subm (.bl go 58 cs :: evIt A8 es :: .bl grx 58 #[.int .i64 1, .int .i64 q, .int .i64 0, .int .i64 0, .int .i64 0, .slice Ax m cx] :: evIt Ax es :: [])) (by kernel_rfl) (fun HS => ?_)
    replace H := H.drew
    refine takeMove (i := 0) rfl rfl _ (by rfl) (by kernel_rfl) (by kernel_rfl) (by kernel_rfl) (fun _ _ _ _ h => h) (by rfl) HS ?_
    (try simp only [Act.put, List.setIfInBounds_toArray, List.set_cons_zero, List.set_cons_succ])
    refine takeV (i := 1) (v := ?_) rfl (by kernel_rfl) (by kernel_rfl) (by kernel_rfl) (fun _ _ _ h => h) (by rfl) ?_ HS ?_
    rotate_left
    · (intro W hW; go_simp; try with_reducible rfl)
    (try simp only [Act.put, List.setIfInBounds_toArray, List.set_cons_zero, List.set_cons_succ])
    refine takeMove (i := 2) rfl rfl _ (by rfl) (by kernel_rfl) (by kernel_rfl) (by kernel_rfl) (fun _ _ _ _ h => h) (by rfl) HS ?_
    (try simp only [Act.put, List.setIfInBounds_toArray, List.set_cons_zero, List.set_cons_succ])
    refine takeMove (i := 3) rfl rfl _ (by rfl) (by kernel_rfl) (by kernel_rfl) (by kernel_rfl) (fun _ _ _ _ h => h) (by rfl) HS ?_
    (try simp only [Act.put, List.setIfInBounds_toArray, List.set_cons_zero, List.set_cons_succ])
    refine takeV (i := 4) (v := ?_) rfl (by kernel_rfl) (by kernel_rfl) (by kernel_rfl) (fun _ _ _ h => h) (by rfl) ?_ HS ?_
    rotate_left
    · (intro W hW; go_simp; try with_reducible rfl)
    (try simp only [Act.put, List.setIfInBounds_toArray, List.set_cons_zero, List.set_cons_succ])
    refine takeV (i := 5) (v := ?_) rfl (by kernel_rfl) (by kernel_rfl) (by kernel_rfl) (fun _ _ _ h => h) (by rfl) ?_ HS ?_
    rotate_left
    · (intro W hW; go_simp; try with_reducible rfl)
    (try simp only [Act.put, List.setIfInBounds_toArray, List.set_cons_zero, List.set_cons_succ])
    refine takeMove (i := 6) rfl rfl _ (by rfl) (by kernel_rfl) (by kernel_rfl) (by kernel_rfl) (fun _ _ _ _ h => h) (by rfl) HS ?_
    (try simp only [Act.put, List.setIfInBounds_toArray, List.set_cons_zero, List.set_cons_succ])
    refine takeMove (i := 7) rfl rfl _ (by rfl) (by kernel_rfl) (by kernel_rfl) (by kernel_rfl) (fun _ _ _ _ h => h) (by rfl) HS ?_
    (try simp only [Act.put, List.setIfInBounds_toArray, List.set_cons_zero, List.set_cons_succ])
    refine takeV (i := 8) (v := ?_) rfl (by kernel_rfl) (by kernel_rfl) (by kernel_rfl) (fun _ _ _ h => h) (by rfl) ?_ HS ?_
    rotate_left
    · (intro W hW; go_simp; try with_reducible rfl)
    (try simp only [Act.put, List.setIfInBounds_toArray, List.set_cons_zero, List.set_cons_succ])
    refine takeV (i := 9) (v := ?_) rfl (by kernel_rfl) (by kernel_rfl) (by kernel_rfl) (fun _ _ _ h => h) (by rfl) ?_ HS ?_
    rotate_left
    · (intro W hW; go_simp; try with_reducible rfl)
    (try simp only [Act.put, List.setIfInBounds_toArray, List.set_cons_zero, List.set_cons_succ])
    refine takeMove (i := 10) rfl rfl _ (by rfl) (by kernel_rfl) (by kernel_rfl) (by kernel_rfl) (fun _ _ _ _ h => h) (by rfl) HS ?_
    (try simp only [Act.put, List.setIfInBounds_toArray, List.set_cons_zero, List.set_cons_succ])
    refine takeMove (i := 11) rfl rfl _ (by rfl) (by kernel_rfl) (by kernel_rfl) (by kernel_rfl) (fun _ _ _ _ h => h) (by rfl) HS ?_
    (try simp only [Act.put, List.setIfInBounds_toArray, List.set_cons_zero, List.set_cons_succ])
    refine takeV (i := 12) (v := ?_) rfl (by kernel_rfl) (by kernel_rfl) (by kernel_rfl) (fun _ _ _ h => h) (by rfl) ?_ HS ?_
    rotate_left
    · (intro W hW; go_simp; try with_reducible rfl)
    (try simp only [Act.put, List.setIfInBounds_toArray, List.set_cons_zero, List.set_cons_succ])
    refine takeV (i := 13) (v := ?_) rfl (by kernel_rfl) (by kernel_rfl) (by kernel_rfl) (fun _ _ _ h => h) (by rfl) ?_ HS ?_
    rotate_left
    · (intro W hW; go_simp; try with_reducible rfl)
    (try simp only [Act.put, List.setIfInBounds_toArray, List.set_cons_zero, List.set_cons_succ])
    refine takeV (i := 14) (v := ?_) rfl (by kernel_rfl) (by kernel_rfl) (by kernel_rfl) (fun _ _ _ h => h) (by rfl) ?_ HS ?_
    rotate_left
    · (intro W hW; go_simp; try with_reducible rfl)
    (try simp only [Act.put, List.setIfInBounds_toArray, List.set_cons_zero, List.set_cons_succ])
    refine takeMove (i := 15) rfl rfl _ (by rfl) (by kernel_rfl) (by kernel_rfl) (by kernel_rfl) (fun _ _ _ _ h => h) (by rfl) HS ?_
    (try simp only [Act.put, List.setIfInBounds_toArray, List.set_cons_zero, List.set_cons_succ])
    refine takeMove (i := 16) rfl rfl _ (by rfl) (by kernel_rfl) (by kernel_rfl) (by kernel_rfl) (fun _ _ _ _ h => h) (by rfl) HS ?_
    (try simp only [Act.put, List.setIfInBounds_toArray, List.set_cons_zero, List.set_cons_succ])
    refine takeMove (i := 17) rfl rfl _ (by rfl) (by kernel_rfl) (by kernel_rfl) (by kernel_rfl) (fun _ _ _ _ h => h) (by rfl) HS ?_
    (try simp only [Act.put, List.setIfInBounds_toArray, List.set_cons_zero, List.set_cons_succ])
    refine takeV (i := 18) (v := ?_) rfl (by kernel_rfl) (by kernel_rfl) (by kernel_rfl) (fun _ _ _ h => h) (by rfl) ?_ HS ?_
    rotate_left
    · (intro W hW; go_simp; try with_reducible rfl)
    (try simp only [Act.put, List.setIfInBounds_toArray, List.set_cons_zero, List.set_cons_succ])
    refine takePart_st (i := 19) (p := k * 6) 58 _ rfl rfl rfl row_Berth (by kernel_rfl) (by rw [hz, Nat.ble_eq]; omega) _ HEX.out (by kernel_rfl) (by kernel_rfl) (by kernel_rfl) (fun _ _ _ _ h => h) (by rfl) HS ?_
    (try simp only [Act.put, List.setIfInBounds_toArray, List.set_cons_zero, List.set_cons_succ])
    refine takeRow_st (i := 20) 58 _ rfl rfl rfl row_Berth (by kernel_rfl) (by kernel_rfl) (by kernel_rfl) (by kernel_rfl) (fun _ _ _ _ h => h) (by rfl) HS ?_
    (try simp only [Act.put, List.setIfInBounds_toArray, List.set_cons_zero, List.set_cons_succ])
    refine branchH [21] (by kernel_rfl) (by kernel_rfl) (AllStep.cons ?_ AllStep.nil)
    refine stepH_do (i := 21) rfl (by rfl) ?_
    refine wp_call_st rfl Try.func20 (by kernel_rfl) (by kernel_rfl) _ ?_ ((sameBerth_st (1) (q) (0) (0) (0) es A8 Ax m c8 cx HL.out H (by omega) hc hcx).mono ?_)
    · rfl
    clear H
    rintro ed wy ⟨rfl, H⟩
    replace HS := HS.of H
    refine ⟨_, rfl, HS, ?_⟩
    (try simp only [Act.put, List.setIfInBounds_toArray, List.set_cons_zero, List.set_cons_succ])
    refine takeV (i := 22) (v := ?_) rfl (by kernel_rfl) (by kernel_rfl) (by kernel_rfl) (fun _ _ _ h => h) (by rfl) ?_ HS ?_
    rotate_left
    · (intro W hW; go_simp; try with_reducible rfl)
    (try simp only [Act.put, List.setIfInBounds_toArray, List.set_cons_zero, List.set_cons_succ])
    refine takeV (i := 23) (v := ?_) rfl (by kernel_rfl) (by kernel_rfl) (by kernel_rfl) (fun _ _ _ h => h) (by rfl) ?_ HS ?_
    rotate_left
    · (intro W hW; go_simp; try with_reducible rfl)
    (try simp only [Act.put, List.setIfInBounds_toArray, List.set_cons_zero, List.set_cons_succ])
    refine doneH (by kernel_rfl) ?_
    go_upto_region 13 with fail
    replace H : St w wy [.bl go 58 cs] := H.subm _
    go_loopw [19] (fun s19 wr => ∃ (j : Nat), j ≤ 4 ∧ s19 = .int .i64 j ∧ St w wr [.bl go 58 cs]) (fun s19 _ => 4 - (intOf s19).toNat)
    case atStart => exact ⟨0, by omega, rfl, H⟩
    case round =>
      clear H
      obtain ⟨j, hj, rfl, H⟩ := hrel
      by_cases hlt : j < 4
      · have i1 : IntKind.i64.wrap ((j : Int) + 1) = (j : Int) + 1 := IntWalk.i64_in _ (by omega)
        have j6 : (0 : Int) ≤ (j : Int) := by omega
        have j7 : (j : Int) < 4 := by omega
        have j8 := decide_eq_true j7
        have HLT := Lib.hid hlt
        by_cases hjk : j = k
        · have g1 : (j : Int) = (k : Int) := by omega
          have g2 : ((j : Int) == (k : Int)) = true := by simp [g1]
          have g3 : ((j : Int) != (k : Int)) = false := by simp [g1]
          clear hjk g1 hlt hj
          go_wp2_with (first | ((with_reducible refine here_load ?_); first | refine ldR H rfl _ _ rfl rfl (by kernel_rfl) ?_ | refine ldS H rfl _ _ rfl rfl (by rfl) ?_ | refine ldSG H (by rfl) _ _ rfl rfl (by rfl) ?_ | refine ldRG H (by rfl) _ _ rfl rfl (by kernel_rfl) ?_) | ((with_reducible refine here_store ?_); first | (refine stR H rfl _ _ _ rfl rfl rfl (by rfl) (by rfl) (by kernel_rfl) ?_; clear H; intro wx H) | (refine stS H rfl _ _ _ rfl rfl _ rfl (by rfl) (by rfl) (by rfl) ?_; clear H; intro wx H)) | ((with_reducible refine here_alloc ?_); first | (refine wpList_alloc_st H rfl 37 rfl _ q_zero ?_; clear H; intro gq4 wx H) | (refine wpList_alloc_st H rfl 48 rfl _ ans_zero ?_; clear H; intro ga4 wx H) | (refine wpList_alloc_st H rfl 44 rfl _ ev_zero ?_; clear H; intro ge4 wx H) | (refine wpList_alloc_st H rfl 58 rfl _ ber_zero ?_; clear H; intro gr4 wx H)) | ((with_reducible refine here_box ?_); refine wpList_box_st H rfl _ _ rfl _ rfl ?_; clear H; intro gb4 wx H))
          go_roundw
          case rel => exact ⟨j + 1, by have := HLT.out; omega, by go_num, H.subm _⟩
          case measure => have := HLT.out; simp [intOf] <;> omega
        · have g1 : ¬ (j : Int) = (k : Int) := by omega
          have g2 : ((j : Int) == (k : Int)) = false := beq_eq_false_iff_ne.2 g1
          have g3 : ((j : Int) != (k : Int)) = true := by simp [g1]
          have HRJ := Lib.hid (show cs.toList[j * 6]? = some (.int .i64 0) from by rw [HRO.out j HLT.out, if_neg hjk])
          clear hjk g1 hlt hj
          go_wp2_with (first | ((with_reducible refine here_load ?_); refine ldSG (j := j * 6) H (by rfl) _ _ rfl rfl HRJ.out ?_) | (first | ((with_reducible refine here_load ?_); first | refine ldR H rfl _ _ rfl rfl (by kernel_rfl) ?_ | refine ldS H rfl _ _ rfl rfl (by rfl) ?_ | refine ldSG H (by rfl) _ _ rfl rfl (by rfl) ?_ | refine ldRG H (by rfl) _ _ rfl rfl (by kernel_rfl) ?_) | ((with_reducible refine here_store ?_); first | (refine stR H rfl _ _ _ rfl rfl rfl (by rfl) (by rfl) (by kernel_rfl) ?_; clear H; intro wx H) | (refine stS H rfl _ _ _ rfl rfl _ rfl (by rfl) (by rfl) (by rfl) ?_; clear H; intro wx H)) | ((with_reducible refine here_alloc ?_); first | (refine wpList_alloc_st H rfl 37 rfl _ q_zero ?_; clear H; intro gq4 wx H) | (refine wpList_alloc_st H rfl 48 rfl _ ans_zero ?_; clear H; intro ga4 wx H) | (refine wpList_alloc_st H rfl 44 rfl _ ev_zero ?_; clear H; intro ge4 wx H) | (refine wpList_alloc_st H rfl 58 rfl _ ber_zero ?_; clear H; intro gr4 wx H)) | ((with_reducible refine here_box ?_); refine wpList_box_st H rfl _ _ rfl _ rfl ?_; clear H; intro gb4 wx H)))
          go_roundw
          case rel => exact ⟨j + 1, by have := HLT.out; omega, by go_num, H.subm _⟩
          case measure => have := HLT.out; simp [intOf] <;> omega
      · obtain rfl : j = 4 := by omega
        rw [show ((4 : Nat) : Int) = 4 from rfl]
        clear hlt hj
        go_wp2_with (first | ((with_reducible refine here_load ?_); first | refine ldR H rfl _ _ rfl rfl (by kernel_rfl) ?_ | refine ldS H rfl _ _ rfl rfl (by rfl) ?_ | refine ldSG H (by rfl) _ _ rfl rfl (by rfl) ?_ | refine ldRG H (by rfl) _ _ rfl rfl (by kernel_rfl) ?_) | ((with_reducible refine here_store ?_); first | (refine stR H rfl _ _ _ rfl rfl rfl (by rfl) (by rfl) (by kernel_rfl) ?_; clear H; intro wx H) | (refine stS H rfl _ _ _ rfl rfl _ rfl (by rfl) (by rfl) (by rfl) ?_; clear H; intro wx H)) | ((with_reducible refine here_alloc ?_); first | (refine wpList_alloc_st H rfl 37 rfl _ q_zero ?_; clear H; intro gq5 wx H) | (refine wpList_alloc_st H rfl 48 rfl _ ans_zero ?_; clear H; intro ga5 wx H) | (refine wpList_alloc_st H rfl 44 rfl _ ev_zero ?_; clear H; intro ge5 wx H) | (refine wpList_alloc_st H rfl 58 rfl _ ber_zero ?_; clear H; intro gr5 wx H)) | ((with_reducible refine here_box ?_); refine wpList_box_st H rfl _ _ rfl _ rfl ?_; clear H; intro gb5 wx H))
        go_ret
        exact ⟨rfl, H.bel⟩


  · go_enter Try.func6, Try.ntmps6
    go_upto_region 2 with (first | (go_at_call 16; with_reducible refine (SV.out _ _ H).mono ?_; clear H; rintro ed wy ⟨Ax, cx, rfl, hcx, H⟩) | (first | ((with_reducible refine here_load ?_); first | refine ldR H rfl _ _ rfl rfl (by kernel_rfl) ?_ | refine ldS H rfl _ _ rfl rfl (by rfl) ?_ | refine ldSG H (by rfl) _ _ rfl rfl (by rfl) ?_ | refine ldRG H (by rfl) _ _ rfl rfl (by kernel_rfl) ?_) | ((with_reducible refine here_store ?_); first | (refine stR H rfl _ _ _ rfl rfl rfl (by rfl) (by rfl) (by kernel_rfl) ?_; clear H; intro wx H) | (refine stS H rfl _ _ _ rfl rfl _ rfl (by rfl) (by rfl) (by rfl) ?_; clear H; intro wx H)) | ((with_reducible refine here_alloc ?_); first | (refine wpList_alloc_st H rfl 37 rfl _ q_zero ?_; clear H; intro gqx wx H) | (refine wpList_alloc_st H rfl 48 rfl _ ans_zero ?_; clear H; intro gax wx H) | (refine wpList_alloc_st H rfl 44 rfl _ ev_zero ?_; clear H; intro gex wx H) | (refine wpList_alloc_st H rfl 58 rfl _ ber_zero ?_; clear H; intro grx wx H)) | ((with_reducible refine here_box ?_); refine wpList_box_st H rfl _ _ rfl _ rfl ?_; clear H; intro gbx wx H)))
    (try simp only [Act.put])
    go_upto_region 4 with (first | (go_at_call 21; with_reducible refine (C1.out _ _ H Ax cx hcx inferInstance).mono ?_; clear H; rintro ed wy ⟨Ay, cy, rfl, hcy, H⟩) | (first | ((with_reducible refine here_load ?_); first | refine ldR H rfl _ _ rfl rfl (by kernel_rfl) ?_ | refine ldS H rfl _ _ rfl rfl (by rfl) ?_ | refine ldSG H (by rfl) _ _ rfl rfl (by rfl) ?_ | refine ldRG H (by rfl) _ _ rfl rfl (by kernel_rfl) ?_) | ((with_reducible refine here_store ?_); first | (refine stR H rfl _ _ _ rfl rfl rfl (by rfl) (by rfl) (by kernel_rfl) ?_; clear H; intro wx H) | (refine stS H rfl _ _ _ rfl rfl _ rfl (by rfl) (by rfl) (by rfl) ?_; clear H; intro wx H)) | ((with_reducible refine here_alloc ?_); first | (refine wpList_alloc_st H rfl 37 rfl _ q_zero ?_; clear H; intro gq2 wx H) | (refine wpList_alloc_st H rfl 48 rfl _ ans_zero ?_; clear H; intro ga2 wx H) | (refine wpList_alloc_st H rfl 44 rfl _ ev_zero ?_; clear H; intro ge2 wx H) | (refine wpList_alloc_st H rfl 58 rfl _ ber_zero ?_; clear H; intro gr2 wx H)) | ((with_reducible refine here_box ?_); refine wpList_box_st H rfl _ _ rfl _ rfl ?_; clear H; intro gb2 wx H)))
    (try simp only [Act.put])
    go_upto_region 5 with (first | (go_at_call 22; with_reducible refine (C2.out _ _ H Ay cy hcy inferInstance).mono ?_; clear H; rintro ed wy ⟨Az, cz, rfl, hcz, H⟩) | (first | ((with_reducible refine here_load ?_); first | refine ldR H rfl _ _ rfl rfl (by kernel_rfl) ?_ | refine ldS H rfl _ _ rfl rfl (by rfl) ?_ | refine ldSG H (by rfl) _ _ rfl rfl (by rfl) ?_ | refine ldRG H (by rfl) _ _ rfl rfl (by kernel_rfl) ?_) | ((with_reducible refine here_store ?_); first | (refine stR H rfl _ _ _ rfl rfl rfl (by rfl) (by rfl) (by kernel_rfl) ?_; clear H; intro wx H) | (refine stS H rfl _ _ _ rfl rfl _ rfl (by rfl) (by rfl) (by rfl) ?_; clear H; intro wx H)) | ((with_reducible refine here_alloc ?_); first | (refine wpList_alloc_st H rfl 37 rfl _ q_zero ?_; clear H; intro gq3 wx H) | (refine wpList_alloc_st H rfl 48 rfl _ ans_zero ?_; clear H; intro ga3 wx H) | (refine wpList_alloc_st H rfl 44 rfl _ ev_zero ?_; clear H; intro ge3 wx H) | (refine wpList_alloc_st H rfl 58 rfl _ ber_zero ?_; clear H; intro gr3 wx H)) | ((with_reducible refine here_box ?_); refine wpList_box_st H rfl _ _ rfl _ rfl ?_; clear H; intro gb3 wx H)))
    (try simp only [Act.put])
    go_upto_region 8 with (first | (first | ((with_reducible refine here_load ?_); first | refine ldR H rfl _ _ rfl rfl (by kernel_rfl) ?_ | refine ldS H rfl _ _ rfl rfl (by rfl) ?_ | refine ldSG H (by rfl) _ _ rfl rfl (by rfl) ?_ | refine ldRG H (by rfl) _ _ rfl rfl (by kernel_rfl) ?_) | ((with_reducible refine here_store ?_); first | (refine stR H rfl _ _ _ rfl rfl rfl (by rfl) (by rfl) (by kernel_rfl) ?_; clear H; intro wx H) | (refine stS H rfl _ _ _ rfl rfl _ rfl (by rfl) (by rfl) (by rfl) ?_; clear H; intro wx H)) | ((with_reducible refine here_alloc ?_); first | (refine wpList_alloc_st H rfl 37 rfl _ q_zero ?_; clear H; intro gq4 wx H) | (refine wpList_alloc_st H rfl 48 rfl _ ans_zero ?_; clear H; intro ga4 wx H) | (refine wpList_alloc_st H rfl 44 rfl _ ev_zero ?_; clear H; intro ge4 wx H) | (refine wpList_alloc_st H rfl 58 rfl _ ber_zero ?_; clear H; intro gr4 wx H)) | ((with_reducible refine here_box ?_); refine wpList_box_st H rfl _ _ rfl _ rfl ?_; clear H; intro gb4 wx H)))
    (try simp only [Act.put])
    go_upto_region 9 with (first | (go_at_call 10; with_reducible refine (PK.out _).mono ?_; rintro ed wy ⟨rfl, rfl⟩) | (first | ((with_reducible refine here_load ?_); first | refine ldR H rfl _ _ rfl rfl (by kernel_rfl) ?_ | refine ldS H rfl _ _ rfl rfl (by rfl) ?_ | refine ldSG H (by rfl) _ _ rfl rfl (by rfl) ?_ | refine ldRG H (by rfl) _ _ rfl rfl (by kernel_rfl) ?_) | ((with_reducible refine here_store ?_); first | (refine stR H rfl _ _ _ rfl rfl rfl (by rfl) (by rfl) (by kernel_rfl) ?_; clear H; intro wx H) | (refine stS H rfl _ _ _ rfl rfl _ rfl (by rfl) (by rfl) (by rfl) ?_; clear H; intro wx H)) | ((with_reducible refine here_alloc ?_); first | (refine wpList_alloc_st H rfl 37 rfl _ q_zero ?_; clear H; intro gq7 wx H) | (refine wpList_alloc_st H rfl 48 rfl _ ans_zero ?_; clear H; intro ga7 wx H) | (refine wpList_alloc_st H rfl 44 rfl _ ev_zero ?_; clear H; intro ge7 wx H) | (refine wpList_alloc_st H rfl 58 rfl _ ber_zero ?_; clear H; intro gr7 wx H)) | ((with_reducible refine here_box ?_); refine wpList_box_st H rfl _ _ rfl _ rfl ?_; clear H; intro gb7 wx H)))
    (try simp only [Act.put])
    go_upto_region 10 with (first | (go_at_call 17; (with_reducible refine (CR2.out _ _ H Az cz hcz inferInstance).mono ?_); clear H; rintro ed wy ⟨A9, c9, rfl, hc9, hc9', H⟩; replace H := H.frzRc HLS.out) | (go_at_call 18; (with_reducible refine (CA2.out _ _ H A9 c9 hc9 inferInstance).mono ?_); clear H; rintro ed wy ⟨go, A8, c8, cs, rfl, hc, hz, hx, hr, he, hv, H⟩) | (first | ((with_reducible refine here_load ?_); first | refine ldR H rfl _ _ rfl rfl (by kernel_rfl) ?_ | refine ldS H rfl _ _ rfl rfl (by rfl) ?_ | refine ldSG H (by rfl) _ _ rfl rfl (by rfl) ?_ | refine ldRG H (by rfl) _ _ rfl rfl (by kernel_rfl) ?_) | ((with_reducible refine here_store ?_); first | (refine stR H rfl _ _ _ rfl rfl rfl (by rfl) (by rfl) (by kernel_rfl) ?_; clear H; intro wx H) | (refine stS H rfl _ _ _ rfl rfl _ rfl (by rfl) (by rfl) (by rfl) ?_; clear H; intro wx H)) | ((with_reducible refine here_alloc ?_); first | (refine wpList_alloc_st H rfl 37 rfl _ q_zero ?_; clear H; intro gq8 wx H) | (refine wpList_alloc_st H rfl 48 rfl _ ans_zero ?_; clear H; intro ga8 wx H) | (refine wpList_alloc_st H rfl 44 rfl _ ev_zero ?_; clear H; intro ge8 wx H) | (refine wpList_alloc_st H rfl 58 rfl _ ber_zero ?_; clear H; intro gr8 wx H)) | ((with_reducible refine here_box ?_); refine wpList_box_st H rfl _ _ rfl _ rfl ?_; clear H; intro gb8 wx H)))
    (try simp only [Act.put])
    have k6 : (0 : Int) ≤ (k : Int) := by omega
    have k7 : (k : Int) < 4 := by omega
    have HEX := Lib.hid hx
    have HRO := Lib.hid hr
    clear hx hr he hv
    refine startS (H.subm (.bl go 58 cs :: evIt A8 es :: .bl grx 58 #[.int .i64 3, .int .i64 q, .int .i64 0, .int .i64 4, .int .i64 0, .slice Az m cz] :: evIt Az es :: [])) (by kernel_rfl) (fun HS => ?_)
    replace H := H.drew
    refine takeMove (i := 0) rfl rfl _ (by rfl) (by kernel_rfl) (by kernel_rfl) (by kernel_rfl) (fun _ _ _ _ h => h) (by rfl) HS ?_
    (try simp only [Act.put, List.setIfInBounds_toArray, List.set_cons_zero, List.set_cons_succ])
    refine takeV (i := 1) (v := ?_) rfl (by kernel_rfl) (by kernel_rfl) (by kernel_rfl) (fun _ _ _ h => h) (by rfl) ?_ HS ?_
    rotate_left
    · (intro W hW; go_simp; try with_reducible rfl)
    (try simp only [Act.put, List.setIfInBounds_toArray, List.set_cons_zero, List.set_cons_succ])
    refine takeMove (i := 2) rfl rfl _ (by rfl) (by kernel_rfl) (by kernel_rfl) (by kernel_rfl) (fun _ _ _ _ h => h) (by rfl) HS ?_
    (try simp only [Act.put, List.setIfInBounds_toArray, List.set_cons_zero, List.set_cons_succ])
    refine takeMove (i := 3) rfl rfl _ (by rfl) (by kernel_rfl) (by kernel_rfl) (by kernel_rfl) (fun _ _ _ _ h => h) (by rfl) HS ?_
    (try simp only [Act.put, List.setIfInBounds_toArray, List.set_cons_zero, List.set_cons_succ])
    refine takeV (i := 4) (v := ?_) rfl (by kernel_rfl) (by kernel_rfl) (by kernel_rfl) (fun _ _ _ h => h) (by rfl) ?_ HS ?_
    rotate_left
    · (intro W hW; go_simp; try with_reducible rfl)
    (try simp only [Act.put, List.setIfInBounds_toArray, List.set_cons_zero, List.set_cons_succ])
    refine takeV (i := 5) (v := ?_) rfl (by kernel_rfl) (by kernel_rfl) (by kernel_rfl) (fun _ _ _ h => h) (by rfl) ?_ HS ?_
    rotate_left
    · (intro W hW; go_simp; try with_reducible rfl)
    (try simp only [Act.put, List.setIfInBounds_toArray, List.set_cons_zero, List.set_cons_succ])
    refine takeMove (i := 6) rfl rfl _ (by rfl) (by kernel_rfl) (by kernel_rfl) (by kernel_rfl) (fun _ _ _ _ h => h) (by rfl) HS ?_
    (try simp only [Act.put, List.setIfInBounds_toArray, List.set_cons_zero, List.set_cons_succ])
    refine takeMove (i := 7) rfl rfl _ (by rfl) (by kernel_rfl) (by kernel_rfl) (by kernel_rfl) (fun _ _ _ _ h => h) (by rfl) HS ?_
    (try simp only [Act.put, List.setIfInBounds_toArray, List.set_cons_zero, List.set_cons_succ])
    refine takeV (i := 8) (v := ?_) rfl (by kernel_rfl) (by kernel_rfl) (by kernel_rfl) (fun _ _ _ h => h) (by rfl) ?_ HS ?_
    rotate_left
    · (intro W hW; go_simp; try with_reducible rfl)
    (try simp only [Act.put, List.setIfInBounds_toArray, List.set_cons_zero, List.set_cons_succ])
    refine takeV (i := 9) (v := ?_) rfl (by kernel_rfl) (by kernel_rfl) (by kernel_rfl) (fun _ _ _ h => h) (by rfl) ?_ HS ?_
    rotate_left
    · (intro W hW; go_simp; try with_reducible rfl)
    (try simp only [Act.put, List.setIfInBounds_toArray, List.set_cons_zero, List.set_cons_succ])
    refine takeMove (i := 10) rfl rfl _ (by rfl) (by kernel_rfl) (by kernel_rfl) (by kernel_rfl) (fun _ _ _ _ h => h) (by rfl) HS ?_
    (try simp only [Act.put, List.setIfInBounds_toArray, List.set_cons_zero, List.set_cons_succ])
    refine takeMove (i := 11) rfl rfl _ (by rfl) (by kernel_rfl) (by kernel_rfl) (by kernel_rfl) (fun _ _ _ _ h => h) (by rfl) HS ?_
    (try simp only [Act.put, List.setIfInBounds_toArray, List.set_cons_zero, List.set_cons_succ])
    refine takeV (i := 12) (v := ?_) rfl (by kernel_rfl) (by kernel_rfl) (by kernel_rfl) (fun _ _ _ h => h) (by rfl) ?_ HS ?_
    rotate_left
    · (intro W hW; go_simp; try with_reducible rfl)
    (try simp only [Act.put, List.setIfInBounds_toArray, List.set_cons_zero, List.set_cons_succ])
    refine takeV (i := 13) (v := ?_) rfl (by kernel_rfl) (by kernel_rfl) (by kernel_rfl) (fun _ _ _ h => h) (by rfl) ?_ HS ?_
    rotate_left
    · (intro W hW; go_simp; try with_reducible rfl)
    (try simp only [Act.put, List.setIfInBounds_toArray, List.set_cons_zero, List.set_cons_succ])
    refine takeV (i := 14) (v := ?_) rfl (by kernel_rfl) (by kernel_rfl) (by kernel_rfl) (fun _ _ _ h => h) (by rfl) ?_ HS ?_
    rotate_left
    · (intro W hW; go_simp; try with_reducible rfl)
    (try simp only [Act.put, List.setIfInBounds_toArray, List.set_cons_zero, List.set_cons_succ])
    refine takeMove (i := 15) rfl rfl _ (by rfl) (by kernel_rfl) (by kernel_rfl) (by kernel_rfl) (fun _ _ _ _ h => h) (by rfl) HS ?_
    (try simp only [Act.put, List.setIfInBounds_toArray, List.set_cons_zero, List.set_cons_succ])
    refine takeMove (i := 16) rfl rfl _ (by rfl) (by kernel_rfl) (by kernel_rfl) (by kernel_rfl) (fun _ _ _ _ h => h) (by rfl) HS ?_
    (try simp only [Act.put, List.setIfInBounds_toArray, List.set_cons_zero, List.set_cons_succ])
    refine takeMove (i := 17) rfl rfl _ (by rfl) (by kernel_rfl) (by kernel_rfl) (by kernel_rfl) (fun _ _ _ _ h => h) (by rfl) HS ?_
    (try simp only [Act.put, List.setIfInBounds_toArray, List.set_cons_zero, List.set_cons_succ])
    refine takeV (i := 18) (v := ?_) rfl (by kernel_rfl) (by kernel_rfl) (by kernel_rfl) (fun _ _ _ h => h) (by rfl) ?_ HS ?_
    rotate_left
    · (intro W hW; go_simp; try with_reducible rfl)
    (try simp only [Act.put, List.setIfInBounds_toArray, List.set_cons_zero, List.set_cons_succ])
    refine takePart_st (i := 19) (p := k * 6) 58 _ rfl rfl rfl row_Berth (by kernel_rfl) (by rw [hz, Nat.ble_eq]; omega) _ HEX.out (by kernel_rfl) (by kernel_rfl) (by kernel_rfl) (fun _ _ _ _ h => h) (by rfl) HS ?_
    (try simp only [Act.put, List.setIfInBounds_toArray, List.set_cons_zero, List.set_cons_succ])
    refine takeRow_st (i := 20) 58 _ rfl rfl rfl row_Berth (by kernel_rfl) (by kernel_rfl) (by kernel_rfl) (by kernel_rfl) (fun _ _ _ _ h => h) (by rfl) HS ?_
    (try simp only [Act.put, List.setIfInBounds_toArray, List.set_cons_zero, List.set_cons_succ])
    refine branchH [21] (by kernel_rfl) (by kernel_rfl) (AllStep.cons ?_ AllStep.nil)
    refine stepH_do (i := 21) rfl (by rfl) ?_
    refine wp_call_st rfl Try.func20 (by kernel_rfl) (by kernel_rfl) _ ?_ ((sameBerth_st (3) (q) (0) (4) (0) es A8 Az m c8 cz HL.out H (by omega) hc hcz).mono ?_)
    · rfl
    clear H
    rintro ed wy ⟨rfl, H⟩
    replace HS := HS.of H
    refine ⟨_, rfl, HS, ?_⟩
    (try simp only [Act.put, List.setIfInBounds_toArray, List.set_cons_zero, List.set_cons_succ])
    refine takeV (i := 22) (v := ?_) rfl (by kernel_rfl) (by kernel_rfl) (by kernel_rfl) (fun _ _ _ h => h) (by rfl) ?_ HS ?_
    rotate_left
    · (intro W hW; go_simp; try with_reducible rfl)
    (try simp only [Act.put, List.setIfInBounds_toArray, List.set_cons_zero, List.set_cons_succ])
    refine takeV (i := 23) (v := ?_) rfl (by kernel_rfl) (by kernel_rfl) (by kernel_rfl) (fun _ _ _ h => h) (by rfl) ?_ HS ?_
    rotate_left
    · (intro W hW; go_simp; try with_reducible rfl)
    (try simp only [Act.put, List.setIfInBounds_toArray, List.set_cons_zero, List.set_cons_succ])
    refine doneH (by kernel_rfl) ?_
    go_upto_region 13 with fail
    replace H : St w wy [.bl go 58 cs] := H.subm _
    go_loopw [19] (fun s19 wr => ∃ (j : Nat), j ≤ 4 ∧ s19 = .int .i64 j ∧ St w wr [.bl go 58 cs]) (fun s19 _ => 4 - (intOf s19).toNat)
    case atStart => exact ⟨0, by omega, rfl, H⟩
    case round =>
      clear H
      obtain ⟨j, hj, rfl, H⟩ := hrel
      by_cases hlt : j < 4
      · have i1 : IntKind.i64.wrap ((j : Int) + 1) = (j : Int) + 1 := IntWalk.i64_in _ (by omega)
        have j6 : (0 : Int) ≤ (j : Int) := by omega
        have j7 : (j : Int) < 4 := by omega
        have j8 := decide_eq_true j7
        have HLT := Lib.hid hlt
        by_cases hjk : j = k
        · have g1 : (j : Int) = (k : Int) := by omega
          have g2 : ((j : Int) == (k : Int)) = true := by simp [g1]
          have g3 : ((j : Int) != (k : Int)) = false := by simp [g1]
          clear hjk g1 hlt hj
          go_wp2_with (first | ((with_reducible refine here_load ?_); first | refine ldR H rfl _ _ rfl rfl (by kernel_rfl) ?_ | refine ldS H rfl _ _ rfl rfl (by rfl) ?_ | refine ldSG H (by rfl) _ _ rfl rfl (by rfl) ?_ | refine ldRG H (by rfl) _ _ rfl rfl (by kernel_rfl) ?_) | ((with_reducible refine here_store ?_); first | (refine stR H rfl _ _ _ rfl rfl rfl (by rfl) (by rfl) (by kernel_rfl) ?_; clear H; intro wx H) | (refine stS H rfl _ _ _ rfl rfl _ rfl (by rfl) (by rfl) (by rfl) ?_; clear H; intro wx H)) | ((with_reducible refine here_alloc ?_); first | (refine wpList_alloc_st H rfl 37 rfl _ q_zero ?_; clear H; intro gq4 wx H) | (refine wpList_alloc_st H rfl 48 rfl _ ans_zero ?_; clear H; intro ga4 wx H) | (refine wpList_alloc_st H rfl 44 rfl _ ev_zero ?_; clear H; intro ge4 wx H) | (refine wpList_alloc_st H rfl 58 rfl _ ber_zero ?_; clear H; intro gr4 wx H)) | ((with_reducible refine here_box ?_); refine wpList_box_st H rfl _ _ rfl _ rfl ?_; clear H; intro gb4 wx H))
          go_roundw
          case rel => exact ⟨j + 1, by have := HLT.out; omega, by go_num, H.subm _⟩
          case measure => have := HLT.out; simp [intOf] <;> omega
        · have g1 : ¬ (j : Int) = (k : Int) := by omega
          have g2 : ((j : Int) == (k : Int)) = false := beq_eq_false_iff_ne.2 g1
          have g3 : ((j : Int) != (k : Int)) = true := by simp [g1]
          have HRJ := Lib.hid (show cs.toList[j * 6]? = some (.int .i64 0) from by rw [HRO.out j HLT.out, if_neg hjk])
          clear hjk g1 hlt hj
          go_wp2_with (first | ((with_reducible refine here_load ?_); refine ldSG (j := j * 6) H (by rfl) _ _ rfl rfl HRJ.out ?_) | (first | ((with_reducible refine here_load ?_); first | refine ldR H rfl _ _ rfl rfl (by kernel_rfl) ?_ | refine ldS H rfl _ _ rfl rfl (by rfl) ?_ | refine ldSG H (by rfl) _ _ rfl rfl (by rfl) ?_ | refine ldRG H (by rfl) _ _ rfl rfl (by kernel_rfl) ?_) | ((with_reducible refine here_store ?_); first | (refine stR H rfl _ _ _ rfl rfl rfl (by rfl) (by rfl) (by kernel_rfl) ?_; clear H; intro wx H) | (refine stS H rfl _ _ _ rfl rfl _ rfl (by rfl) (by rfl) (by rfl) ?_; clear H; intro wx H)) | ((with_reducible refine here_alloc ?_); first | (refine wpList_alloc_st H rfl 37 rfl _ q_zero ?_; clear H; intro gq4 wx H) | (refine wpList_alloc_st H rfl 48 rfl _ ans_zero ?_; clear H; intro ga4 wx H) | (refine wpList_alloc_st H rfl 44 rfl _ ev_zero ?_; clear H; intro ge4 wx H) | (refine wpList_alloc_st H rfl 58 rfl _ ber_zero ?_; clear H; intro gr4 wx H)) | ((with_reducible refine here_box ?_); refine wpList_box_st H rfl _ _ rfl _ rfl ?_; clear H; intro gb4 wx H)))
          go_roundw
          case rel => exact ⟨j + 1, by have := HLT.out; omega, by go_num, H.subm _⟩
          case measure => have := HLT.out; simp [intOf] <;> omega
      · obtain rfl : j = 4 := by omega
        rw [show ((4 : Nat) : Int) = 4 from rfl]
        clear hlt hj
        go_wp2_with (first | ((with_reducible refine here_load ?_); first | refine ldR H rfl _ _ rfl rfl (by kernel_rfl) ?_ | refine ldS H rfl _ _ rfl rfl (by rfl) ?_ | refine ldSG H (by rfl) _ _ rfl rfl (by rfl) ?_ | refine ldRG H (by rfl) _ _ rfl rfl (by kernel_rfl) ?_) | ((with_reducible refine here_store ?_); first | (refine stR H rfl _ _ _ rfl rfl rfl (by rfl) (by rfl) (by kernel_rfl) ?_; clear H; intro wx H) | (refine stS H rfl _ _ _ rfl rfl _ rfl (by rfl) (by rfl) (by rfl) ?_; clear H; intro wx H)) | ((with_reducible refine here_alloc ?_); first | (refine wpList_alloc_st H rfl 37 rfl _ q_zero ?_; clear H; intro gq5 wx H) | (refine wpList_alloc_st H rfl 48 rfl _ ans_zero ?_; clear H; intro ga5 wx H) | (refine wpList_alloc_st H rfl 44 rfl _ ev_zero ?_; clear H; intro ge5 wx H) | (refine wpList_alloc_st H rfl 58 rfl _ ber_zero ?_; clear H; intro gr5 wx H)) | ((with_reducible refine here_box ?_); refine wpList_box_st H rfl _ _ rfl _ rfl ?_; clear H; intro gb5 wx H))
        go_ret
        exact ⟨rfl, H.bel⟩



end Go.Proofs.Ytjmncbfmjeeneaa

namespace Go.Proofs.Ytjmncbfmjeeneaa.lawRebuildBack
open Go.ChangeShapes Go.WideShapes Go.ChangeAt Go.RowKit Go.Joins
open Go.ChangeMaps (open_string shut_string)
set_option linter.unusedVariables false

theorem own : ownKnob Try.prog.godebug = none := by kernel_rfl
theorem laidOut : laidOutB Try.prog = true := by kernel_rfl

set_option maxRecDepth 100000 in
theorem lifted (os : Os) (started : os.Started) (H : Type) (enc : TypeId × Value → H) :
    ReturnsInHanded {} Try.checked os 6 .any (Rows.rebuildBackSpec.pre6 enc Try.prog Try.f6 Rows.rebuildBackRow.domain false) (Rows.rebuildBackSpec.post enc Try.prog Try.f6 false true false false) := by
  refine returnsInHanded_of_change_sized (C := Try.checked) own started (by kernel_rfl) Try.func6
    (ChangeSpec.witness6 (enc := enc) (C := Try.checked) false ⟨#[], #[.int .i64 0, .slice none 0 0, .int .i64 0, .bool false], []⟩ 12 (by kernel_rfl) (by kernel_rfl) (by kernel_rfl) (by kernel_rfl)) ?_
  intro W base args ds gs before hval0 hW hcnd hsz0 _
  have hval : ∀ (j : Nat) t v, Try.f6.params[j]? = some t → args[j]? = some v → Value.okWide Try.prog W .any base t v := hval0
  have hsz : (DataW.weightsEach Try.prog (Try.f6.params.toList ++ Rows.rebuildBackSpec.plain.varTypes Try.prog) (ds ++ gs)).all (· ≤ reachBytes) = true := hsz0
  have hW' := hW
  obtain ⟨p, q, hA0, hV, rfl, hfz, hnd⟩ := hW
  have hA : DataW.TrodAll enc Try.prog W 0 (fun _ => true) true Try.f6.params.toList args.toList ds p := hA0
  rw [Try.params6] at hA hval hsz
  obtain ⟨v0, vs0, d0, ds0, p0, q0, hargs, rfl, rfl, h0, r0⟩ := trodAll_cons hA
  obtain ⟨v1, vs1, d1, ds1, p1, q1, rfl, rfl, rfl, h1, r1⟩ := trodAll_cons r0
  obtain ⟨v2, vs2, d2, ds2, p2, q2, rfl, rfl, rfl, h2, r2⟩ := trodAll_cons r1
  obtain ⟨v3, vs3, d3, ds3, p3, q3, rfl, rfl, rfl, h3, r3⟩ := trodAll_cons r2
  obtain ⟨rfl, rfl, rfl⟩ := trodAll_nil r3
  obtain rfl : args = #[v0, v1, v2, v3] := by cases args; simp_all
  obtain ⟨rfl, rfl⟩ := trodVars_none hV
  have k0 := h0
  have lt0 : ∀ x ∈ p0, x.block < W.heap.size := by obtain ⟨m, hm⟩ := k0; exact DataW.trod_lt m _ _ _ hm
  obtain ⟨a0, rfl, rfl, rfl, w0⟩ := open_int Try.underlying3 (hval 0 3 v0 rfl rfl) h0
  have b0 := is64_of_wf w0
  have k1 := h1
  have lt1 : ∀ x ∈ p1, x.block < W.heap.size := by obtain ⟨m, hm⟩ := k1; exact DataW.trod_lt m _ _ _ hm
  obtain ⟨A1, n1, c1, z1, rfl, b1⟩ := view_rows (ti := 3) (B := 32) Try.underlying56 Try.underlying101 (by kernel_rfl) (by kernel_rfl) (by kernel_rfl) (by intro j f h; match j, h with | 0, h => (simp at h; subst h; rfl) | 1, h => (simp at h; subst h; rfl) | 2, h => (simp at h; subst h; rfl) | 3, h => (simp at h; subst h; rfl) | j + 4, h => simp at h) Try.underlying3 (by decide) (hval 1 56 v1 rfl rfl) h1 hsz (j := 1) rfl rfl
  have k2 := h2
  have lt2 : ∀ x ∈ p2, x.block < W.heap.size := by obtain ⟨m, hm⟩ := k2; exact DataW.trod_lt m _ _ _ hm
  obtain ⟨a2, rfl, rfl, rfl, w2⟩ := open_int Try.underlying3 (hval 2 3 v2 rfl rfl) h2
  have b2 := is64_of_wf w2
  have k3 := h3
  have lt3 : ∀ x ∈ p3, x.block < W.heap.size := by obtain ⟨m, hm⟩ := k3; exact DataW.trod_lt m _ _ _ hm
  obtain ⟨a3, rfl, rfl, rfl⟩ := open_bool Try.underlying4 (hval 3 4 v3 rfl rfl) h3
  clear hA0 hval0 hsz0
  refine (rebuildBack_walk a0 A1 n1 c1 z1 a2 a3 W b0 b1 b2).mono fun e W' ⟨he, bel⟩ => ?_
  subst he
  exact ⟨_, rfl, _, _, _, [], _, [], hW', trodAll_mk1 (shut_bool Try.underlying4 _), (trodAll_cons_mk (Below.trod laidOut (by kernel_rfl) (of_decide_eq_true (by kernel_rfl)) k0 bel lt0) (trodAll_cons_mk (Below.trod laidOut (by kernel_rfl) (of_decide_eq_true (by kernel_rfl)) k1 bel lt1) (trodAll_cons_mk (Below.trod laidOut (by kernel_rfl) (of_decide_eq_true (by kernel_rfl)) k2 bel lt2) (trodAll_cons_mk (Below.trod laidOut (by kernel_rfl) (of_decide_eq_true (by kernel_rfl)) k3 bel lt3) trodAll_mk0)))), rfl, bel.frame _, fun h => by cases h⟩

theorem over : Rows.rebuildBackRow.holds Try.pinned (OpenSpec.ofChange Rows.rebuildBackSpec) :=
  OpenClaim.holds_of_wide 6 Try.f6 rfl rfl rfl rfl rfl rfl rfl ⟨rfl, rfl, rfl, rfl, rfl⟩ rfl rfl rfl rfl rfl (by kernel_rfl) Try.func6 (by kernel_rfl)
    (of_decide_eq_true (by kernel_rfl)) (by unfold Func.isWrapper; first | (rw [if_pos (by decide +kernel)]; kernel_rfl) | (rw [if_neg (by decide +kernel)]; exact ⟨rfl, rfl⟩))
    (fun os started H enc _ => lifted os started H enc)

theorem proved : Rows.RebuildBackSaid := over
#print axioms proved
end Go.Proofs.Ytjmncbfmjeeneaa.lawRebuildBack
