/- ImportOver: the walk. -/
import Derived.Test.YtjgbkicnagcmdaaBL
namespace Go.Proofs.Ytjgbkicnagcmdaa
open Go.RowKit

set_option maxRecDepth 100000 in
set_option maxHeartbeats 8000000 in
theorem importOver_walk (ep : Int) (A : Option Addr) (n c : Nat) (rows : List (List Int)) (ct fr : Int) (w : World) (h0 : Is64 ep) (h : IsRows 4 32 w A n c rows) (h2 : Is64 ct) (h3 : Is64 fr) :
    Calls Try.prog 10 #[.int .i64 ep, .slice A n c, .int .i64 ct, .int .i64 fr] w fun e w' => e = .returned (.bool true) ∧ Below w.heap.size w w' := by
  have H := St.start w
  have SV0 := fun W J (H : St w W J) => served_st (w0 := w) (w := W) (I := J) ep A n c 40 rows h0 h (by omega) H
  have p0 := pick_lo ep 1000 (by omega)
  have p1 := pick_hi ep 1000 (by omega)
  obtain ⟨q, hq⟩ : ∃ q, 1 + pick ep 1000 = q := ⟨_, rfl⟩
  rw [hq] at SV0
  have hq1 : 1 ≤ q := by omega
  have hq2 : q ≤ 1000 := by omega
  clear hq p0 p1
  obtain ⟨es, hsv, hm0, hx0, hnb0⟩ := served_is q rows hq1 (by omega) (min n 40)
  rw [hsv] at SV0
  have hm : es.length ≤ 40 := by omega
  have HX := Lib.hid (hx0.more (show min n 40 ≤ 40 by omega))
  obtain ⟨m, hl⟩ : ∃ m, es.length = m := ⟨_, rfl⟩
  rw [hl] at hm
  have SV := Lib.hid (fun W J (H : St w W J) => (show Calls Try.prog 15 #[.int .i64 ep, .slice A n c, .int .i64 40] W (fun ed w' => ∃ A c, ed = .returned (.tuple #[.agg #[.int .i64 1, .int .i64 q, .int .i64 0, .int .i64 0, .int .i64 0, .slice A m c], .bool true]) ∧ m ≤ c ∧ St w w' (evIt A es :: J)) from vpost_to hl (SV0 W J H)))
  have HL := Lib.hid hl
  have HZ := Lib.hid (BM.zero_ok)
  have HNB := Lib.hid hnb0
  have HL0 := Lib.hid (show ([] : List Ev).length = 0 from rfl)
  clear SV0 hsv hm0 hx0 hl hnb0
  have PA := Lib.hid (fun W => (picked_any ct ((m : Int) + 1) W (h2).1 (h2).2 (by omega) (by omega)).mono (fun e w' h => (⟨h.1, h.2.symm⟩ : e = .returned (.int .i64 (pick ct ((m : Int) + 1))) ∧ w' = W)))
  have k_l := pick_lo ct ((m : Int) + 1) (by omega)
  have k_h := pick_hi ct ((m : Int) + 1) (by omega)
  obtain ⟨k_, hk_⟩ : ∃ x, pick ct ((m : Int) + 1) = x := ⟨_, rfl⟩
  rw [hk_] at PA k_l k_h
  clear hk_
  obtain ⟨k, rfl⟩ : ∃ x : Nat, k_ = (x : Int) := ⟨k_.toNat, by omega⟩
  have PB := Lib.hid (fun W => (picked_any fr ((k : Int) + 1) W (h3).1 (h3).2 (by omega) (by omega)).mono (fun e w' h => (⟨h.1, h.2.symm⟩ : e = .returned (.int .i64 (pick fr ((k : Int) + 1))) ∧ w' = W)))
  have j_l := pick_lo fr ((k : Int) + 1) (by omega)
  have j_h := pick_hi fr ((k : Int) + 1) (by omega)
  obtain ⟨j_, hj_⟩ : ∃ x, pick fr ((k : Int) + 1) = x := ⟨_, rfl⟩
  rw [hj_] at PB j_l j_h
  clear hj_
  obtain ⟨j, rfl⟩ : ∃ x : Nat, j_ = (x : Int) := ⟨j_.toNat, by omega⟩
  have hkm : k ≤ m := by omega
  have hjk : j ≤ k := by omega
  have w1 : IntKind.i64.wrap ((m : Int) + 1) = (m : Int) + 1 := IntWalk.i64_in _ (by omega)
  have w2 : IntKind.i64.wrap ((k : Int) + 1) = (k : Int) + 1 := IntWalk.i64_in _ (by omega)
  have HLT := Lib.hid (show (es.take k).length = k from by rw [List.length_take, HL.out]; omega)
  have HLD := Lib.hid (show (es.drop j).length = m - j from by rw [List.length_drop, HL.out])
  have C1 := Lib.hid (fun W J (H : St w W J) A c (hc : 0 ≤ c) (hI : Has J (evIt A [])) => (show Calls Try.prog 30 #[.agg #[.int .i64 0, .int .i64 0, .int .i64 0, .int .i64 0, .int .i64 0, .slice A 0 c], .int .i64 q, .int .i64 1] W (fun ed w' => ∃ A' c', ed = .returned (.tuple #[.agg #[.int .i64 4, .int .i64 q, .int .i64 1, .int .i64 0, .int .i64 0, .slice A' 0 c'], .int .i64 0]) ∧ 0 ≤ c' ∧ St w w' (evIt A' [] :: J)) from by
    have h := begin_st (h := hI) (w0 := w) (w := W) (I := J) ⟨0, 0, 0, 0, 0, []⟩ A 0 c 0 q 1 HL0.out HZ.out (by omega) hc H
    rw [show BM.beginR ⟨0, 0, 0, 0, 0, []⟩ (q) (1) = (⟨4, q, 1, 0, 0, []⟩, 0) from (by have hl := HL.out; unfold BM.beginR; dsimp only; repeat (first | rw [if_pos (by omega)] | rw [if_neg (by omega)]); try rfl)] at h
    exact bpost_to HL0.out h))
  have HT0 := Lib.hid (show (⟨4, q, 1, 0, 0, []⟩ : BM).Ok 40 from HX.out.cut 0 (by unfold BM.Shape; dsimp only; omega) (by simp))
  have HT := Lib.hid (show (⟨4, q, 1, 0, 0, es.take k⟩ : BM).Ok 40 from HX.out.cut k (by unfold BM.Shape; dsimp only; omega) rfl)
  have HU := Lib.hid (show (⟨4, q, 1, 0, 0, es⟩ : BM).Ok 40 from HX.out.same (by unfold BM.Shape; dsimp only; omega) rfl)
  have C2 := Lib.hid (fun W J (H : St w W J) A c (hc : 0 ≤ c) B d (hd : k ≤ d) (hI : Has J (evIt A [])) (hI2 : Has J (evIt B (es.take k))) => (show Calls Try.prog 31 #[.agg #[.int .i64 4, .int .i64 q, .int .i64 1, .int .i64 0, .int .i64 0, .slice A 0 c], .int .i64 q, .int .i64 0, .slice B k d, .bool false] W (fun ed w' => ∃ A' c', ed = .returned (.tuple #[.agg #[.int .i64 4, .int .i64 q, .int .i64 1, .int .i64 0, .int .i64 0, .slice A' k c'], .int .i64 0]) ∧ k ≤ c' ∧ St w w' (evIt A' (es.take k) :: J)) from by
    have h := import_on (h := hI) (h2 := hI2) (w0 := w) (w := W) (I := J) q 1 0 0 [] (es.take k) A B 0 c k d 40 0 0 40 HL0.out HLT.out HT0.out (by omega) (by omega) hc hd (by omega) (by omega) (by simp) (by simpa using HT.out) (by omega) H
    rw [show ([] : List Ev) ++ (es.take k).drop 0 = es.take k from by simp] at h
    exact bpost_to HLT.out h))
  have C3 := Lib.hid (fun W J (H : St w W J) A c (hc : k ≤ c) B d (hd : m - j ≤ d) (hI : Has J (evIt A (es.take k))) (hI2 : Has J (evIt B (es.drop j))) => (show Calls Try.prog 31 #[.agg #[.int .i64 4, .int .i64 q, .int .i64 1, .int .i64 0, .int .i64 0, .slice A k c], .int .i64 q, .int .i64 j, .slice B (m - j) d, .bool false] W (fun ed w' => ∃ A' c', ed = .returned (.tuple #[.agg #[.int .i64 4, .int .i64 q, .int .i64 1, .int .i64 0, .int .i64 0, .slice A' m c'], .int .i64 0]) ∧ m ≤ c' ∧ St w w' (evIt A' es :: J)) from by
    have h := import_on (h := hI) (h2 := hI2) (w0 := w) (w := W) (I := J) q 1 0 0 (es.take k) (es.drop j) A B k c (m - j) d 40 j (k - j) 40 HLT.out HLD.out HT.out (by omega) (by omega) hc hd hjk (by omega) (by rw [List.drop_take, List.drop_zero, List.take_take, Nat.min_self]) (by rw [show es.take k ++ (es.drop j).drop (k - j) = es from by rw [List.drop_drop, Nat.add_sub_cancel' hjk, List.take_append_drop]]; exact HU.out) (by omega) H
    rw [show es.take k ++ (es.drop j).drop (k - j) = es from by rw [List.drop_drop, Nat.add_sub_cancel' hjk, List.take_append_drop]] at h
    exact bpost_to HL.out h))
  have C4 := Lib.hid (fun W J (H : St w W J) A c (hc : k ≤ c) B d (hd : 0 ≤ d) (hI : Has J (evIt A (es.take k))) (hI2 : Has J (evIt B [])) => (show Calls Try.prog 31 #[.agg #[.int .i64 4, .int .i64 q, .int .i64 1, .int .i64 0, .int .i64 0, .slice A k c], .int .i64 q, .int .i64 ((k : Int) + 1), .slice B 0 d, .bool false] W (fun ed w' => ∃ A' c', ed = .returned (.tuple #[.agg #[.int .i64 0, .int .i64 0, .int .i64 0, .int .i64 0, .int .i64 0, .slice A' 0 c'], .int .i64 2]) ∧ 0 ≤ c' ∧ St w w' (evIt A' [] :: J)) from by
    have h := import_high (h := hI) (h2 := hI2) (w0 := w) (w := W) (I := J) q 1 0 0 ((k : Int) + 1) (es.take k) [] A B k c 0 d 40 false HLT.out HL0.out HT.out (by omega) (by omega) hc hd (by omega) H
    exact bpost_to HL0.out h))
  clear h0 h2 h3 h
  go_enter Try.func10, Try.ntmps10
  go_upto_region 2 with (first | (go_at_call 15; with_reducible refine (SV.out _ _ H).mono ?_; clear H; rintro ed wy ⟨Ax, cx, rfl, hcx, H⟩) | (first
      | ((with_reducible refine here_load ?_); first | (refine wpList_load_st H rfl 46 _ rfl rfl row_Queue (by kernel_rfl) ?_) | (refine wpList_load_st H rfl 50 _ rfl rfl row_Answer (by kernel_rfl) ?_) | (refine wpList_load_st H rfl 37 _ rfl rfl row_Event (by kernel_rfl) ?_) | (refine wpList_load_st H rfl 27 _ rfl rfl row_Berth (by kernel_rfl) ?_) | (refine wpList_load1_st H rfl 3 _ rfl rfl sc_int (by rfl) ?_) | (refine wpList_load1_stG H (by rfl) 3 _ rfl rfl sc_int (by rfl) ?_) | (refine wpList_load1_st H rfl 4 _ rfl rfl sc_bool (by rfl) ?_) | (refine wpList_load1_stG H (by rfl) 4 _ rfl rfl sc_bool (by rfl) ?_) | (refine wpList_load1_st H rfl 30 _ rfl rfl sc_Errno (by rfl) ?_) | (refine wpList_load1_stG H (by rfl) 30 _ rfl rfl sc_Errno (by rfl) ?_) | (refine wpList_load1_st H rfl 25 _ rfl rfl sc_Evs (by rfl) ?_) | (refine wpList_load1_stG H (by rfl) 25 _ rfl rfl sc_Evs (by rfl) ?_))
      | ((with_reducible refine here_store ?_); first | (refine wpList_store_st H rfl 46 _ _ rfl rfl rfl (by kernel_rfl) (by rfl) (by kernel_rfl) ?_; clear H; intro wx H) | (refine wpList_store_st H rfl 50 _ _ rfl rfl rfl (by kernel_rfl) (by rfl) (by kernel_rfl) ?_; clear H; intro wx H) | (refine wpList_store_st H rfl 37 _ _ rfl rfl rfl (by kernel_rfl) (by rfl) (by kernel_rfl) ?_; clear H; intro wx H) | (refine wpList_store_st H rfl 27 _ _ rfl rfl rfl (by kernel_rfl) (by rfl) (by kernel_rfl) ?_; clear H; intro wx H) | (refine wpList_store1_st H rfl 3 _ _ rfl rfl _ rfl (by rfl) s1_int (by rfl) (by rfl) ?_; clear H; intro wx H) | (refine wpList_store1_st H rfl 4 _ _ rfl rfl _ rfl (by rfl) s1_bool (by rfl) (by rfl) ?_; clear H; intro wx H) | (refine wpList_store1_st H rfl 30 _ _ rfl rfl _ rfl (by rfl) s1_Errno (by rfl) (by rfl) ?_; clear H; intro wx H) | (refine wpList_store1_st H rfl 25 _ _ rfl rfl _ rfl (by rfl) s1_Evs (by rfl) (by rfl) ?_; clear H; intro wx H))
      | ((with_reducible refine here_alloc ?_); first | (refine wpList_alloc_st H rfl 46 rfl _ q_zero ?_; clear H; intro gqx wx H) | (refine wpList_alloc_st H rfl 50 rfl _ ans_zero ?_; clear H; intro gax wx H) | (refine wpList_alloc_st H rfl 37 rfl _ ev_zero ?_; clear H; intro gex wx H) | (refine wpList_alloc_st H rfl 27 rfl _ ber_zero ?_; clear H; intro grx wx H))
      | ((with_reducible refine here_box ?_); first | (refine wpList_box_st H rfl _ _ rfl _ rfl ?_; clear H; intro gbx wx H))))
  (try simp only [Act.put])
  go_upto_region 3 with (first | (first
      | ((with_reducible refine here_load ?_); first | (refine wpList_load_st H rfl 46 _ rfl rfl row_Queue (by kernel_rfl) ?_) | (refine wpList_load_st H rfl 50 _ rfl rfl row_Answer (by kernel_rfl) ?_) | (refine wpList_load_st H rfl 37 _ rfl rfl row_Event (by kernel_rfl) ?_) | (refine wpList_load_st H rfl 27 _ rfl rfl row_Berth (by kernel_rfl) ?_) | (refine wpList_load1_st H rfl 3 _ rfl rfl sc_int (by rfl) ?_) | (refine wpList_load1_stG H (by rfl) 3 _ rfl rfl sc_int (by rfl) ?_) | (refine wpList_load1_st H rfl 4 _ rfl rfl sc_bool (by rfl) ?_) | (refine wpList_load1_stG H (by rfl) 4 _ rfl rfl sc_bool (by rfl) ?_) | (refine wpList_load1_st H rfl 30 _ rfl rfl sc_Errno (by rfl) ?_) | (refine wpList_load1_stG H (by rfl) 30 _ rfl rfl sc_Errno (by rfl) ?_) | (refine wpList_load1_st H rfl 25 _ rfl rfl sc_Evs (by rfl) ?_) | (refine wpList_load1_stG H (by rfl) 25 _ rfl rfl sc_Evs (by rfl) ?_))
      | ((with_reducible refine here_store ?_); first | (refine wpList_store_st H rfl 46 _ _ rfl rfl rfl (by kernel_rfl) (by rfl) (by kernel_rfl) ?_; clear H; intro wx H) | (refine wpList_store_st H rfl 50 _ _ rfl rfl rfl (by kernel_rfl) (by rfl) (by kernel_rfl) ?_; clear H; intro wx H) | (refine wpList_store_st H rfl 37 _ _ rfl rfl rfl (by kernel_rfl) (by rfl) (by kernel_rfl) ?_; clear H; intro wx H) | (refine wpList_store_st H rfl 27 _ _ rfl rfl rfl (by kernel_rfl) (by rfl) (by kernel_rfl) ?_; clear H; intro wx H) | (refine wpList_store1_st H rfl 3 _ _ rfl rfl _ rfl (by rfl) s1_int (by rfl) (by rfl) ?_; clear H; intro wx H) | (refine wpList_store1_st H rfl 4 _ _ rfl rfl _ rfl (by rfl) s1_bool (by rfl) (by rfl) ?_; clear H; intro wx H) | (refine wpList_store1_st H rfl 30 _ _ rfl rfl _ rfl (by rfl) s1_Errno (by rfl) (by rfl) ?_; clear H; intro wx H) | (refine wpList_store1_st H rfl 25 _ _ rfl rfl _ rfl (by rfl) s1_Evs (by rfl) (by rfl) ?_; clear H; intro wx H))
      | ((with_reducible refine here_alloc ?_); first | (refine wpList_alloc_st H rfl 46 rfl _ q_zero ?_; clear H; intro gq2 wx H) | (refine wpList_alloc_st H rfl 50 rfl _ ans_zero ?_; clear H; intro ga2 wx H) | (refine wpList_alloc_st H rfl 37 rfl _ ev_zero ?_; clear H; intro ge2 wx H) | (refine wpList_alloc_st H rfl 27 rfl _ ber_zero ?_; clear H; intro gr2 wx H))
      | ((with_reducible refine here_box ?_); first | (refine wpList_box_st H rfl _ _ rfl _ rfl ?_; clear H; intro gb2 wx H))))
  (try simp only [Act.put])
  go_upto_region 4 with (first | (go_at_call 17; with_reducible refine (PA.out _).mono ?_; rintro ed wy ⟨rfl, rfl⟩) | (first
      | ((with_reducible refine here_load ?_); first | (refine wpList_load_st H rfl 46 _ rfl rfl row_Queue (by kernel_rfl) ?_) | (refine wpList_load_st H rfl 50 _ rfl rfl row_Answer (by kernel_rfl) ?_) | (refine wpList_load_st H rfl 37 _ rfl rfl row_Event (by kernel_rfl) ?_) | (refine wpList_load_st H rfl 27 _ rfl rfl row_Berth (by kernel_rfl) ?_) | (refine wpList_load1_st H rfl 3 _ rfl rfl sc_int (by rfl) ?_) | (refine wpList_load1_stG H (by rfl) 3 _ rfl rfl sc_int (by rfl) ?_) | (refine wpList_load1_st H rfl 4 _ rfl rfl sc_bool (by rfl) ?_) | (refine wpList_load1_stG H (by rfl) 4 _ rfl rfl sc_bool (by rfl) ?_) | (refine wpList_load1_st H rfl 30 _ rfl rfl sc_Errno (by rfl) ?_) | (refine wpList_load1_stG H (by rfl) 30 _ rfl rfl sc_Errno (by rfl) ?_) | (refine wpList_load1_st H rfl 25 _ rfl rfl sc_Evs (by rfl) ?_) | (refine wpList_load1_stG H (by rfl) 25 _ rfl rfl sc_Evs (by rfl) ?_))
      | ((with_reducible refine here_store ?_); first | (refine wpList_store_st H rfl 46 _ _ rfl rfl rfl (by kernel_rfl) (by rfl) (by kernel_rfl) ?_; clear H; intro wx H) | (refine wpList_store_st H rfl 50 _ _ rfl rfl rfl (by kernel_rfl) (by rfl) (by kernel_rfl) ?_; clear H; intro wx H) | (refine wpList_store_st H rfl 37 _ _ rfl rfl rfl (by kernel_rfl) (by rfl) (by kernel_rfl) ?_; clear H; intro wx H) | (refine wpList_store_st H rfl 27 _ _ rfl rfl rfl (by kernel_rfl) (by rfl) (by kernel_rfl) ?_; clear H; intro wx H) | (refine wpList_store1_st H rfl 3 _ _ rfl rfl _ rfl (by rfl) s1_int (by rfl) (by rfl) ?_; clear H; intro wx H) | (refine wpList_store1_st H rfl 4 _ _ rfl rfl _ rfl (by rfl) s1_bool (by rfl) (by rfl) ?_; clear H; intro wx H) | (refine wpList_store1_st H rfl 30 _ _ rfl rfl _ rfl (by rfl) s1_Errno (by rfl) (by rfl) ?_; clear H; intro wx H) | (refine wpList_store1_st H rfl 25 _ _ rfl rfl _ rfl (by rfl) s1_Evs (by rfl) (by rfl) ?_; clear H; intro wx H))
      | ((with_reducible refine here_alloc ?_); first | (refine wpList_alloc_st H rfl 46 rfl _ q_zero ?_; clear H; intro gq2 wx H) | (refine wpList_alloc_st H rfl 50 rfl _ ans_zero ?_; clear H; intro ga2 wx H) | (refine wpList_alloc_st H rfl 37 rfl _ ev_zero ?_; clear H; intro ge2 wx H) | (refine wpList_alloc_st H rfl 27 rfl _ ber_zero ?_; clear H; intro gr2 wx H))
      | ((with_reducible refine here_box ?_); first | (refine wpList_box_st H rfl _ _ rfl _ rfl ?_; clear H; intro gb2 wx H))))
  (try simp only [Act.put])
  go_upto_region 5 with (first | (go_at_call 30; replace H := H.noEv; with_reducible refine (C1.out _ _ H none 0 (Nat.le_refl _) inferInstance).mono ?_; clear H; rintro ed wy ⟨A1, c1, rfl, hc1, H⟩) | (first
      | ((with_reducible refine here_load ?_); first | (refine wpList_load_st H rfl 46 _ rfl rfl row_Queue (by kernel_rfl) ?_) | (refine wpList_load_st H rfl 50 _ rfl rfl row_Answer (by kernel_rfl) ?_) | (refine wpList_load_st H rfl 37 _ rfl rfl row_Event (by kernel_rfl) ?_) | (refine wpList_load_st H rfl 27 _ rfl rfl row_Berth (by kernel_rfl) ?_) | (refine wpList_load1_st H rfl 3 _ rfl rfl sc_int (by rfl) ?_) | (refine wpList_load1_stG H (by rfl) 3 _ rfl rfl sc_int (by rfl) ?_) | (refine wpList_load1_st H rfl 4 _ rfl rfl sc_bool (by rfl) ?_) | (refine wpList_load1_stG H (by rfl) 4 _ rfl rfl sc_bool (by rfl) ?_) | (refine wpList_load1_st H rfl 30 _ rfl rfl sc_Errno (by rfl) ?_) | (refine wpList_load1_stG H (by rfl) 30 _ rfl rfl sc_Errno (by rfl) ?_) | (refine wpList_load1_st H rfl 25 _ rfl rfl sc_Evs (by rfl) ?_) | (refine wpList_load1_stG H (by rfl) 25 _ rfl rfl sc_Evs (by rfl) ?_))
      | ((with_reducible refine here_store ?_); first | (refine wpList_store_st H rfl 46 _ _ rfl rfl rfl (by kernel_rfl) (by rfl) (by kernel_rfl) ?_; clear H; intro wx H) | (refine wpList_store_st H rfl 50 _ _ rfl rfl rfl (by kernel_rfl) (by rfl) (by kernel_rfl) ?_; clear H; intro wx H) | (refine wpList_store_st H rfl 37 _ _ rfl rfl rfl (by kernel_rfl) (by rfl) (by kernel_rfl) ?_; clear H; intro wx H) | (refine wpList_store_st H rfl 27 _ _ rfl rfl rfl (by kernel_rfl) (by rfl) (by kernel_rfl) ?_; clear H; intro wx H) | (refine wpList_store1_st H rfl 3 _ _ rfl rfl _ rfl (by rfl) s1_int (by rfl) (by rfl) ?_; clear H; intro wx H) | (refine wpList_store1_st H rfl 4 _ _ rfl rfl _ rfl (by rfl) s1_bool (by rfl) (by rfl) ?_; clear H; intro wx H) | (refine wpList_store1_st H rfl 30 _ _ rfl rfl _ rfl (by rfl) s1_Errno (by rfl) (by rfl) ?_; clear H; intro wx H) | (refine wpList_store1_st H rfl 25 _ _ rfl rfl _ rfl (by rfl) s1_Evs (by rfl) (by rfl) ?_; clear H; intro wx H))
      | ((with_reducible refine here_alloc ?_); first | (refine wpList_alloc_st H rfl 46 rfl _ q_zero ?_; clear H; intro gq3 wx H) | (refine wpList_alloc_st H rfl 50 rfl _ ans_zero ?_; clear H; intro ga3 wx H) | (refine wpList_alloc_st H rfl 37 rfl _ ev_zero ?_; clear H; intro ge3 wx H) | (refine wpList_alloc_st H rfl 27 rfl _ ber_zero ?_; clear H; intro gr3 wx H))
      | ((with_reducible refine here_box ?_); first | (refine wpList_box_st H rfl _ _ rfl _ rfl ?_; clear H; intro gb3 wx H))))
  (try simp only [Act.put])
  replace H : St w wx [.bl gr3 27 #[.int .i64 4, .int .i64 q, .int .i64 1, .int .i64 0, .int .i64 0, .slice A1 0 c1], evIt A1 [], .bl grx 27 #[.int .i64 1, .int .i64 q, .int .i64 0, .int .i64 0, .int .i64 0, .slice Ax m cx], evIt Ax es] := H.subm _
  go_cut [9, 10, 11, 12, 13, 14, 15] (fun s9 s10 s11 s12 s13 s14 s15 wx => ∃ At ct', s9 = .pointer (some ⟨grx, 0, none⟩) ∧ s10 = .bool true ∧ s11 = .int .i64 m ∧ s12 = .int .i64 k ∧ s13 = .pointer (some ⟨gr3, 0, none⟩) ∧ s14 = .int .i64 0 ∧ s15 = .int .i64 0 ∧ k ≤ ct' ∧ St w wx [.bl gr3 27 #[.int .i64 4, .int .i64 q, .int .i64 1, .int .i64 0, .int .i64 0, .slice At k ct'], evIt At (es.take k), .bl grx 27 #[.int .i64 1, .int .i64 q, .int .i64 0, .int .i64 0, .int .i64 0, .slice Ax m cx], evIt Ax es])
  case first =>
    refine startS (H.subm (.bl grx 27 #[.int .i64 1, .int .i64 q, .int .i64 0, .int .i64 0, .int .i64 0, .slice Ax m cx] :: evIt Ax es :: [])) (by kernel_rfl) (fun HS => ?_)
    replace H := H.drew
    refine takeV (i := 1) (v := ?_) rfl (by kernel_rfl) (by kernel_rfl) (by kernel_rfl) (fun _ _ _ h => h) (by rfl) ?_ HS ?_
    rotate_left
    · (intro W hW; go_simp; try with_reducible rfl)
    (try simp only [Act.put, List.setIfInBounds_toArray, List.set_cons_zero, List.set_cons_succ])
    refine take1_st (i := 2) 3 _ rfl rfl rfl sc_int _ (by rfl) (by kernel_rfl) (by kernel_rfl) (by kernel_rfl) (fun _ _ _ _ h => h) (by rfl) HS ?_
    (try simp only [Act.put, List.setIfInBounds_toArray, List.set_cons_zero, List.set_cons_succ])
    refine takeV (i := 3) (v := ?_) rfl (by kernel_rfl) (by kernel_rfl) (by kernel_rfl) (fun _ _ _ h => h) (by rfl) ?_ HS ?_
    rotate_left
    · (intro W hW; go_simp; try with_reducible rfl)
    (try simp only [Act.put, List.setIfInBounds_toArray, List.set_cons_zero, List.set_cons_succ])
    refine take1_st (i := 4) 25 _ rfl rfl rfl sc_Evs _ (by rfl) (by kernel_rfl) (by kernel_rfl) (by kernel_rfl) (fun _ _ _ _ h => h) (by rfl) HS ?_
    (try simp only [Act.put, List.setIfInBounds_toArray, List.set_cons_zero, List.set_cons_succ])
    refine takeMove (i := 5) rfl rfl _ (by rfl) (by kernel_rfl) (by kernel_rfl) (by kernel_rfl) (fun _ _ _ _ h => h) (by rfl) HS ?_
    (try simp only [Act.put, List.setIfInBounds_toArray, List.set_cons_zero, List.set_cons_succ])
    refine takeMove (i := 6) rfl rfl _ (by rfl) (by kernel_rfl) (by kernel_rfl) (by kernel_rfl) (fun _ _ _ _ h => h) (by rfl) HS ?_
    (try simp only [Act.put, List.setIfInBounds_toArray, List.set_cons_zero, List.set_cons_succ])
    refine takeSlice (i := 7) rfl rfl Try.underlying25 (s := 6) (by kernel_rfl) rfl (0) (k) (k) (.inr ⟨rfl, rfl⟩) (.inl ⟨_, rfl, by omega⟩) (.inl ⟨_, rfl, by omega⟩) (fun h => by cases h) (by omega) (by omega) (by omega) (k) (k) (by omega) (by omega) (by kernel_rfl) (by kernel_rfl) (by kernel_rfl) (fun _ _ _ _ h => h) (by rfl) HS ?_
    (try simp only [Act.put, List.setIfInBounds_toArray, List.set_cons_zero, List.set_cons_succ])
    refine branchH [0] (by kernel_rfl) (by kernel_rfl) (AllStep.cons ?_ AllStep.nil)
    refine stepH_do (i := 0) rfl (by rfl) ?_
    refine wp_loadRow_st H 27 _ rfl rfl row_Berth (by kernel_rfl) ?_
    replace HS := HS.of H
    refine ⟨HS, ?_⟩
    (try simp only [Act.put, List.setIfInBounds_toArray, List.set_cons_zero, List.set_cons_succ])
    refine branchH [8] (by kernel_rfl) (by kernel_rfl) (AllStep.cons ?_ AllStep.nil)
    refine stepH_do (i := 8) rfl (by rfl) ?_
    replace H := H.subEv (A := Ax) (es := es) 0 k k (by rw [HL.out]; omega) (by omega)
    rw [List.drop_zero] at H
    refine wp_call_st rfl Try.func31 (by kernel_rfl) (by kernel_rfl) _ ?_ ((C2.out _ _ H A1 c1 hc1 (subA Ax 0 k 6) k (Nat.le_refl _) inferInstance inferInstance).mono ?_)
    · rfl
    clear H
    rintro ed wy ⟨A2, c2, rfl, hc2, H⟩
    replace HS := HS.of H
    refine ⟨_, rfl, HS, ?_⟩
    (try simp only [Act.put, List.setIfInBounds_toArray, List.set_cons_zero, List.set_cons_succ])
    refine takeMove (i := 9) rfl rfl _ (by rfl) (by kernel_rfl) (by kernel_rfl) (by kernel_rfl) (fun _ _ _ _ h => h) (by rfl) HS ?_
    (try simp only [Act.put, List.setIfInBounds_toArray, List.set_cons_zero, List.set_cons_succ])
    refine takeExtract (i := 10) rfl rfl _ _ (by rfl) (by rfl) (by kernel_rfl) (by kernel_rfl) (by kernel_rfl) (fun _ _ _ _ h => h) (by rfl) HS ?_
    (try simp only [Act.put, List.setIfInBounds_toArray, List.set_cons_zero, List.set_cons_succ])
    refine takeExtract (i := 11) rfl rfl _ _ (by rfl) (by rfl) (by kernel_rfl) (by kernel_rfl) (by kernel_rfl) (fun _ _ _ _ h => h) (by rfl) HS ?_
    (try simp only [Act.put, List.setIfInBounds_toArray, List.set_cons_zero, List.set_cons_succ])
    refine branchH [12] (by kernel_rfl) (by kernel_rfl) (AllStep.cons ?_ AllStep.nil)
    refine stepH_do (i := 12) rfl (by rfl) ?_
    refine wp_store_st H 27 _ _ rfl rfl rfl (by kernel_rfl) (by rfl) (by kernel_rfl) ?_
    clear H
    intro wx H
    replace HS := HS.of H
    refine ⟨HS, ?_⟩
    (try simp only [Act.put])
    refine takeAssign (i := 13) rfl rfl _ (by rfl) (by kernel_rfl) (by kernel_rfl) (by kernel_rfl) (fun _ _ _ _ h => h) (by rfl) HS ?_
    (try simp only [Act.put, List.setIfInBounds_toArray, List.set_cons_zero, List.set_cons_succ])
    refine doneH (by kernel_rfl) ?_
    go_wp2_with fail
    go_meet
    exact ⟨A2, c2, rfl, rfl, rfl, rfl, rfl, rfl, rfl, hc2, H.subm _⟩
  case rest =>
    clear H
    obtain ⟨At, ct', rfl, rfl, rfl, rfl, rfl, rfl, rfl, hct, H⟩ := hcut
    go_upto_region 7 with (first | (go_at_call 17; with_reducible refine (PB.out _).mono ?_; rintro ed wy ⟨rfl, rfl⟩) | (first
        | ((with_reducible refine here_load ?_); first | (refine wpList_load_st H rfl 46 _ rfl rfl row_Queue (by kernel_rfl) ?_) | (refine wpList_load_st H rfl 50 _ rfl rfl row_Answer (by kernel_rfl) ?_) | (refine wpList_load_st H rfl 37 _ rfl rfl row_Event (by kernel_rfl) ?_) | (refine wpList_load_st H rfl 27 _ rfl rfl row_Berth (by kernel_rfl) ?_) | (refine wpList_load1_st H rfl 3 _ rfl rfl sc_int (by rfl) ?_) | (refine wpList_load1_stG H (by rfl) 3 _ rfl rfl sc_int (by rfl) ?_) | (refine wpList_load1_st H rfl 4 _ rfl rfl sc_bool (by rfl) ?_) | (refine wpList_load1_stG H (by rfl) 4 _ rfl rfl sc_bool (by rfl) ?_) | (refine wpList_load1_st H rfl 30 _ rfl rfl sc_Errno (by rfl) ?_) | (refine wpList_load1_stG H (by rfl) 30 _ rfl rfl sc_Errno (by rfl) ?_) | (refine wpList_load1_st H rfl 25 _ rfl rfl sc_Evs (by rfl) ?_) | (refine wpList_load1_stG H (by rfl) 25 _ rfl rfl sc_Evs (by rfl) ?_))
        | ((with_reducible refine here_store ?_); first | (refine wpList_store_st H rfl 46 _ _ rfl rfl rfl (by kernel_rfl) (by rfl) (by kernel_rfl) ?_; clear H; intro wx H) | (refine wpList_store_st H rfl 50 _ _ rfl rfl rfl (by kernel_rfl) (by rfl) (by kernel_rfl) ?_; clear H; intro wx H) | (refine wpList_store_st H rfl 37 _ _ rfl rfl rfl (by kernel_rfl) (by rfl) (by kernel_rfl) ?_; clear H; intro wx H) | (refine wpList_store_st H rfl 27 _ _ rfl rfl rfl (by kernel_rfl) (by rfl) (by kernel_rfl) ?_; clear H; intro wx H) | (refine wpList_store1_st H rfl 3 _ _ rfl rfl _ rfl (by rfl) s1_int (by rfl) (by rfl) ?_; clear H; intro wx H) | (refine wpList_store1_st H rfl 4 _ _ rfl rfl _ rfl (by rfl) s1_bool (by rfl) (by rfl) ?_; clear H; intro wx H) | (refine wpList_store1_st H rfl 30 _ _ rfl rfl _ rfl (by rfl) s1_Errno (by rfl) (by rfl) ?_; clear H; intro wx H) | (refine wpList_store1_st H rfl 25 _ _ rfl rfl _ rfl (by rfl) s1_Evs (by rfl) (by rfl) ?_; clear H; intro wx H))
        | ((with_reducible refine here_alloc ?_); first | (refine wpList_alloc_st H rfl 46 rfl _ q_zero ?_; clear H; intro gq6 wx H) | (refine wpList_alloc_st H rfl 50 rfl _ ans_zero ?_; clear H; intro ga6 wx H) | (refine wpList_alloc_st H rfl 37 rfl _ ev_zero ?_; clear H; intro ge6 wx H) | (refine wpList_alloc_st H rfl 27 rfl _ ber_zero ?_; clear H; intro gr6 wx H))
        | ((with_reducible refine here_box ?_); first | (refine wpList_box_st H rfl _ _ rfl _ rfl ?_; clear H; intro gb6 wx H))))
    (try simp only [Act.put])
    go_cut [9, 10, 11, 12, 13, 14, 15, 17, 18] (fun s9 s10 s11 s12 s13 s14 s15 s17 s18 wx => ∃ gu Au cu, s9 = .pointer (some ⟨grx, 0, none⟩) ∧ s10 = .bool true ∧ s11 = .int .i64 m ∧ s12 = .int .i64 k ∧ s13 = .pointer (some ⟨gr3, 0, none⟩) ∧ s14 = .int .i64 0 ∧ s15 = .int .i64 0 ∧ s17 = .pointer (some ⟨gu, 0, none⟩) ∧ s18 = .int .i64 0 ∧ m ≤ cu ∧ St w wx [.bl gu 27 #[.int .i64 4, .int .i64 q, .int .i64 1, .int .i64 0, .int .i64 0, .slice Au m cu], evIt Au es, .bl gr3 27 #[.int .i64 4, .int .i64 q, .int .i64 1, .int .i64 0, .int .i64 0, .slice At k ct'], evIt At (es.take k), .bl grx 27 #[.int .i64 1, .int .i64 q, .int .i64 0, .int .i64 0, .int .i64 0, .slice Ax m cx], evIt Ax es])
    case first =>
      refine startS (H.subm (.bl gr3 27 #[.int .i64 4, .int .i64 q, .int .i64 1, .int .i64 0, .int .i64 0, .slice At k ct'] :: evIt At (es.take k) :: .bl grx 27 #[.int .i64 1, .int .i64 q, .int .i64 0, .int .i64 0, .int .i64 0, .slice Ax m cx] :: evIt Ax es :: [])) (by kernel_rfl) (fun HS => ?_)
      replace H := H.drew
      refine takeRow_st (i := 0) 27 _ rfl rfl rfl row_Berth (by kernel_rfl) (by kernel_rfl) (by kernel_rfl) (by kernel_rfl) (fun _ _ _ _ h => h) (by rfl) HS ?_
      (try simp only [Act.put, List.setIfInBounds_toArray, List.set_cons_zero, List.set_cons_succ])
      refine takeV (i := 1) (v := ?_) rfl (by kernel_rfl) (by kernel_rfl) (by kernel_rfl) (fun _ _ _ h => h) (by rfl) ?_ HS ?_
      rotate_left
      · (intro W hW; go_simp; try with_reducible rfl)
      (try simp only [Act.put, List.setIfInBounds_toArray, List.set_cons_zero, List.set_cons_succ])
      refine take1_st (i := 2) 3 _ rfl rfl rfl sc_int _ (by rfl) (by kernel_rfl) (by kernel_rfl) (by kernel_rfl) (fun _ _ _ _ h => h) (by rfl) HS ?_
      (try simp only [Act.put, List.setIfInBounds_toArray, List.set_cons_zero, List.set_cons_succ])
      refine takeMove (i := 3) rfl rfl _ (by rfl) (by kernel_rfl) (by kernel_rfl) (by kernel_rfl) (fun _ _ _ _ h => h) (by rfl) HS ?_
      (try simp only [Act.put, List.setIfInBounds_toArray, List.set_cons_zero, List.set_cons_succ])
      refine takeV (i := 4) (v := ?_) rfl (by kernel_rfl) (by kernel_rfl) (by kernel_rfl) (fun _ _ _ h => h) (by rfl) ?_ HS ?_
      rotate_left
      · (intro W hW; go_simp; try with_reducible rfl)
      (try simp only [Act.put, List.setIfInBounds_toArray, List.set_cons_zero, List.set_cons_succ])
      refine take1_st (i := 5) 25 _ rfl rfl rfl sc_Evs _ (by rfl) (by kernel_rfl) (by kernel_rfl) (by kernel_rfl) (fun _ _ _ _ h => h) (by rfl) HS ?_
      (try simp only [Act.put, List.setIfInBounds_toArray, List.set_cons_zero, List.set_cons_succ])
      refine takeMove (i := 6) rfl rfl _ (by rfl) (by kernel_rfl) (by kernel_rfl) (by kernel_rfl) (fun _ _ _ _ h => h) (by rfl) HS ?_
      (try simp only [Act.put, List.setIfInBounds_toArray, List.set_cons_zero, List.set_cons_succ])
      refine takeSlice (i := 7) rfl rfl Try.underlying25 (s := 6) (by kernel_rfl) rfl (j) (m) (cx) (.inl ⟨_, rfl, by omega⟩) (.inr ⟨rfl, rfl⟩) (.inr ⟨rfl, rfl⟩) (fun _ => rfl) (by omega) (by omega) (by omega) (m - j) (cx - j) (by omega) (by omega) (by kernel_rfl) (by kernel_rfl) (by kernel_rfl) (fun _ _ _ _ h => h) (by rfl) HS ?_
      (try simp only [Act.put, List.setIfInBounds_toArray, List.set_cons_zero, List.set_cons_succ])
      refine branchH [8, 12] (by kernel_rfl) (by kernel_rfl) (AllStep.cons ?_ (AllStep.cons ?_ AllStep.nil))
      · refine stepH_do (i := 8) rfl (by rfl) ?_
        replace H := H.subEv (A := Ax) (es := es) j (m - j) cx (by rw [HL.out]; omega) (by omega)
        rw [List.take_of_length_le (Nat.le_of_eq HLD.out)] at H
        refine wp_call_st rfl Try.func31 (by kernel_rfl) (by kernel_rfl) _ ?_ ((C3.out _ _ H At ct' hct (subA Ax j cx 6) (cx - j) (by omega) inferInstance inferInstance).mono ?_)
        · rfl
        clear H
        rintro ed wy ⟨A3, c3, rfl, hc3, H⟩
        replace HS := HS.of H
        refine ⟨_, rfl, HS, ?_⟩
        (try simp only [Act.put, List.setIfInBounds_toArray, List.set_cons_zero, List.set_cons_succ])
        refine takeMove (i := 9) rfl rfl _ (by rfl) (by kernel_rfl) (by kernel_rfl) (by kernel_rfl) (fun _ _ _ _ h => h) (by rfl) HS ?_
        (try simp only [Act.put, List.setIfInBounds_toArray, List.set_cons_zero, List.set_cons_succ])
        refine takeExtract (i := 10) rfl rfl _ _ (by rfl) (by rfl) (by kernel_rfl) (by kernel_rfl) (by kernel_rfl) (fun _ _ _ _ h => h) (by rfl) HS ?_
        (try simp only [Act.put, List.setIfInBounds_toArray, List.set_cons_zero, List.set_cons_succ])
        refine takeExtract (i := 11) rfl rfl _ _ (by rfl) (by rfl) (by kernel_rfl) (by kernel_rfl) (by kernel_rfl) (fun _ _ _ _ h => h) (by rfl) HS ?_
        (try simp only [Act.put, List.setIfInBounds_toArray, List.set_cons_zero, List.set_cons_succ])
        refine branchH [12] (by kernel_rfl) (by kernel_rfl) (AllStep.cons ?_ AllStep.nil)
        refine stepH_do (i := 12) rfl (by rfl) ?_
        refine wp_alloc_st H 27 rfl _ ber_zero ?_
        clear H
        intro gr7 wx H
        replace HS := HS.of H
        refine ⟨HS, ?_⟩
        (try simp only [Act.put, List.setIfInBounds_toArray, List.set_cons_zero, List.set_cons_succ])
        refine branchH [13] (by kernel_rfl) (by kernel_rfl) (AllStep.cons ?_ AllStep.nil)
        refine stepH_do (i := 13) rfl (by rfl) ?_
        refine wp_store_st H 27 _ _ rfl rfl rfl (by kernel_rfl) (by rfl) (by kernel_rfl) ?_
        clear H
        intro wx H
        replace HS := HS.of H
        refine ⟨HS, ?_⟩
        (try simp only [Act.put])
        refine takeAssign (i := 14) rfl rfl _ (by rfl) (by kernel_rfl) (by kernel_rfl) (by kernel_rfl) (fun _ _ _ _ h => h) (by rfl) HS ?_
        (try simp only [Act.put, List.setIfInBounds_toArray, List.set_cons_zero, List.set_cons_succ])
        refine doneH (by kernel_rfl) ?_
        go_wp2_with fail
        go_meet
        exact ⟨gr7, A3, c3, rfl, rfl, rfl, rfl, rfl, rfl, rfl, rfl, rfl, hc3, H.subm _⟩
      · refine stepH_do (i := 12) rfl (by rfl) ?_
        refine wp_alloc_st H 27 rfl _ ber_zero ?_
        clear H
        intro gr7 wx H
        replace HS := HS.of H
        refine ⟨HS, ?_⟩
        (try simp only [Act.put, List.setIfInBounds_toArray, List.set_cons_zero, List.set_cons_succ])
        refine branchH [8] (by kernel_rfl) (by kernel_rfl) (AllStep.cons ?_ AllStep.nil)
        refine stepH_do (i := 8) rfl (by rfl) ?_
        replace H := H.subEv (A := Ax) (es := es) j (m - j) cx (by rw [HL.out]; omega) (by omega)
        rw [List.take_of_length_le (Nat.le_of_eq HLD.out)] at H
        refine wp_call_st rfl Try.func31 (by kernel_rfl) (by kernel_rfl) _ ?_ ((C3.out _ _ H At ct' hct (subA Ax j cx 6) (cx - j) (by omega) inferInstance inferInstance).mono ?_)
        · rfl
        clear H
        rintro ed wy ⟨A3, c3, rfl, hc3, H⟩
        replace HS := HS.of H
        refine ⟨_, rfl, HS, ?_⟩
        (try simp only [Act.put, List.setIfInBounds_toArray, List.set_cons_zero, List.set_cons_succ])
        refine takeMove (i := 9) rfl rfl _ (by rfl) (by kernel_rfl) (by kernel_rfl) (by kernel_rfl) (fun _ _ _ _ h => h) (by rfl) HS ?_
        (try simp only [Act.put, List.setIfInBounds_toArray, List.set_cons_zero, List.set_cons_succ])
        refine takeExtract (i := 10) rfl rfl _ _ (by rfl) (by rfl) (by kernel_rfl) (by kernel_rfl) (by kernel_rfl) (fun _ _ _ _ h => h) (by rfl) HS ?_
        (try simp only [Act.put, List.setIfInBounds_toArray, List.set_cons_zero, List.set_cons_succ])
        refine takeExtract (i := 11) rfl rfl _ _ (by rfl) (by rfl) (by kernel_rfl) (by kernel_rfl) (by kernel_rfl) (fun _ _ _ _ h => h) (by rfl) HS ?_
        (try simp only [Act.put, List.setIfInBounds_toArray, List.set_cons_zero, List.set_cons_succ])
        refine branchH [13] (by kernel_rfl) (by kernel_rfl) (AllStep.cons ?_ AllStep.nil)
        refine stepH_do (i := 13) rfl (by rfl) ?_
        refine wp_store_st H 27 _ _ rfl rfl rfl (by kernel_rfl) (by rfl) (by kernel_rfl) ?_
        clear H
        intro wx H
        replace HS := HS.of H
        refine ⟨HS, ?_⟩
        (try simp only [Act.put])
        refine takeAssign (i := 14) rfl rfl _ (by rfl) (by kernel_rfl) (by kernel_rfl) (by kernel_rfl) (fun _ _ _ _ h => h) (by rfl) HS ?_
        (try simp only [Act.put, List.setIfInBounds_toArray, List.set_cons_zero, List.set_cons_succ])
        refine doneH (by kernel_rfl) ?_
        go_wp2_with fail
        go_meet
        exact ⟨gr7, A3, c3, rfl, rfl, rfl, rfl, rfl, rfl, rfl, rfl, rfl, hc3, H.subm _⟩
    case rest =>
      clear H
      obtain ⟨gu, Au, cu, rfl, rfl, rfl, rfl, rfl, rfl, rfl, rfl, rfl, hcu, H⟩ := hcut
      go_upto_region 9 with (first | (go_at_call 31; replace H := H.noEv; with_reducible refine (C4.out _ _ H At ct' hct none 0 (Nat.le_refl _) inferInstance inferInstance).mono ?_; clear H; rintro ed wy ⟨A4, c4, rfl, hc4, H⟩) | (first
          | ((with_reducible refine here_load ?_); first | (refine wpList_load_st H rfl 46 _ rfl rfl row_Queue (by kernel_rfl) ?_) | (refine wpList_load_st H rfl 50 _ rfl rfl row_Answer (by kernel_rfl) ?_) | (refine wpList_load_st H rfl 37 _ rfl rfl row_Event (by kernel_rfl) ?_) | (refine wpList_load_st H rfl 27 _ rfl rfl row_Berth (by kernel_rfl) ?_) | (refine wpList_load1_st H rfl 3 _ rfl rfl sc_int (by rfl) ?_) | (refine wpList_load1_stG H (by rfl) 3 _ rfl rfl sc_int (by rfl) ?_) | (refine wpList_load1_st H rfl 4 _ rfl rfl sc_bool (by rfl) ?_) | (refine wpList_load1_stG H (by rfl) 4 _ rfl rfl sc_bool (by rfl) ?_) | (refine wpList_load1_st H rfl 30 _ rfl rfl sc_Errno (by rfl) ?_) | (refine wpList_load1_stG H (by rfl) 30 _ rfl rfl sc_Errno (by rfl) ?_) | (refine wpList_load1_st H rfl 25 _ rfl rfl sc_Evs (by rfl) ?_) | (refine wpList_load1_stG H (by rfl) 25 _ rfl rfl sc_Evs (by rfl) ?_))
          | ((with_reducible refine here_store ?_); first | (refine wpList_store_st H rfl 46 _ _ rfl rfl rfl (by kernel_rfl) (by rfl) (by kernel_rfl) ?_; clear H; intro wx H) | (refine wpList_store_st H rfl 50 _ _ rfl rfl rfl (by kernel_rfl) (by rfl) (by kernel_rfl) ?_; clear H; intro wx H) | (refine wpList_store_st H rfl 37 _ _ rfl rfl rfl (by kernel_rfl) (by rfl) (by kernel_rfl) ?_; clear H; intro wx H) | (refine wpList_store_st H rfl 27 _ _ rfl rfl rfl (by kernel_rfl) (by rfl) (by kernel_rfl) ?_; clear H; intro wx H) | (refine wpList_store1_st H rfl 3 _ _ rfl rfl _ rfl (by rfl) s1_int (by rfl) (by rfl) ?_; clear H; intro wx H) | (refine wpList_store1_st H rfl 4 _ _ rfl rfl _ rfl (by rfl) s1_bool (by rfl) (by rfl) ?_; clear H; intro wx H) | (refine wpList_store1_st H rfl 30 _ _ rfl rfl _ rfl (by rfl) s1_Errno (by rfl) (by rfl) ?_; clear H; intro wx H) | (refine wpList_store1_st H rfl 25 _ _ rfl rfl _ rfl (by rfl) s1_Evs (by rfl) (by rfl) ?_; clear H; intro wx H))
          | ((with_reducible refine here_alloc ?_); first | (refine wpList_alloc_st H rfl 46 rfl _ q_zero ?_; clear H; intro gq8 wx H) | (refine wpList_alloc_st H rfl 50 rfl _ ans_zero ?_; clear H; intro ga8 wx H) | (refine wpList_alloc_st H rfl 37 rfl _ ev_zero ?_; clear H; intro ge8 wx H) | (refine wpList_alloc_st H rfl 27 rfl _ ber_zero ?_; clear H; intro gr8 wx H))
          | ((with_reducible refine here_box ?_); first | (refine wpList_box_st H rfl _ _ rfl _ rfl ?_; clear H; intro gb8 wx H))))
      (try simp only [Act.put])
      by_cases hk0 : k = 0
      · have g1 : ((k : Int) == 0) = true := by rw [hk0]; rfl
        have g2 : (k : Int) = 0 := by omega
        clear hk0
        go_wp2_with (first | (go_at_call 25; with_reducible refine (sameEv_st es Au Ax m cu cx HL.out H (by omega) hcu hcx).mono ?_; clear H; rintro ed wy ⟨rfl, H⟩) | ((with_reducible refine here_load ?_); first | refine wpList_loadPart_stG H (by rfl) 27 _ rfl rfl row_Berth (by kernel_rfl) (by rfl) _ (arr6_all _ _ _ _ _ _) ?_ | refine wpList_loadPart_stG H (by rfl) 50 _ rfl rfl row_Answer (by kernel_rfl) (by rfl) _ (arr4_all _ _ _ _) ?_ | refine wpList_loadPart_stG H (by rfl) 46 _ rfl rfl row_Queue (by kernel_rfl) (by rfl) _ (qArr_all _ _ _ _ _) ?_) | (first
          | ((with_reducible refine here_load ?_); first | (refine wpList_load_st H rfl 46 _ rfl rfl row_Queue (by kernel_rfl) ?_) | (refine wpList_load_st H rfl 50 _ rfl rfl row_Answer (by kernel_rfl) ?_) | (refine wpList_load_st H rfl 37 _ rfl rfl row_Event (by kernel_rfl) ?_) | (refine wpList_load_st H rfl 27 _ rfl rfl row_Berth (by kernel_rfl) ?_) | (refine wpList_load1_st H rfl 3 _ rfl rfl sc_int (by rfl) ?_) | (refine wpList_load1_stG H (by rfl) 3 _ rfl rfl sc_int (by rfl) ?_) | (refine wpList_load1_st H rfl 4 _ rfl rfl sc_bool (by rfl) ?_) | (refine wpList_load1_stG H (by rfl) 4 _ rfl rfl sc_bool (by rfl) ?_) | (refine wpList_load1_st H rfl 30 _ rfl rfl sc_Errno (by rfl) ?_) | (refine wpList_load1_stG H (by rfl) 30 _ rfl rfl sc_Errno (by rfl) ?_) | (refine wpList_load1_st H rfl 25 _ rfl rfl sc_Evs (by rfl) ?_) | (refine wpList_load1_stG H (by rfl) 25 _ rfl rfl sc_Evs (by rfl) ?_))
          | ((with_reducible refine here_store ?_); first | (refine wpList_store_st H rfl 46 _ _ rfl rfl rfl (by kernel_rfl) (by rfl) (by kernel_rfl) ?_; clear H; intro wx H) | (refine wpList_store_st H rfl 50 _ _ rfl rfl rfl (by kernel_rfl) (by rfl) (by kernel_rfl) ?_; clear H; intro wx H) | (refine wpList_store_st H rfl 37 _ _ rfl rfl rfl (by kernel_rfl) (by rfl) (by kernel_rfl) ?_; clear H; intro wx H) | (refine wpList_store_st H rfl 27 _ _ rfl rfl rfl (by kernel_rfl) (by rfl) (by kernel_rfl) ?_; clear H; intro wx H) | (refine wpList_store1_st H rfl 3 _ _ rfl rfl _ rfl (by rfl) s1_int (by rfl) (by rfl) ?_; clear H; intro wx H) | (refine wpList_store1_st H rfl 4 _ _ rfl rfl _ rfl (by rfl) s1_bool (by rfl) (by rfl) ?_; clear H; intro wx H) | (refine wpList_store1_st H rfl 30 _ _ rfl rfl _ rfl (by rfl) s1_Errno (by rfl) (by rfl) ?_; clear H; intro wx H) | (refine wpList_store1_st H rfl 25 _ _ rfl rfl _ rfl (by rfl) s1_Evs (by rfl) (by rfl) ?_; clear H; intro wx H))
          | ((with_reducible refine here_alloc ?_); first | (refine wpList_alloc_st H rfl 46 rfl _ q_zero ?_; clear H; intro gq9 wx H) | (refine wpList_alloc_st H rfl 50 rfl _ ans_zero ?_; clear H; intro ga9 wx H) | (refine wpList_alloc_st H rfl 37 rfl _ ev_zero ?_; clear H; intro ge9 wx H) | (refine wpList_alloc_st H rfl 27 rfl _ ber_zero ?_; clear H; intro gr9 wx H))
          | ((with_reducible refine here_box ?_); first | (refine wpList_box_st H rfl _ _ rfl _ rfl ?_; clear H; intro gb9 wx H))))
        go_ret
        exact ⟨rfl, H.bel⟩
      · have g1 : ¬ (k : Int) = 0 := by omega
        have g2 : ((k : Int) == 0) = false := beq_eq_false_iff_ne.2 g1
        have g3 := decide_eq_false g1
        have HE := Lib.hid (show ∃ e es', es = e :: es' from by
          cases es with
          | nil => have := HL.out; simp at this; omega
          | cons e es' => exact ⟨e, es', rfl⟩)
        have HK0 := Lib.hid hk0
        clear g1 hk0
        go_upto_region 13 with (first | (go_at_call 25; with_reducible refine (sameEv_st es Au Ax m cu cx HL.out H (by omega) hcu hcx).mono ?_; clear H; rintro ed wy ⟨rfl, H⟩) | ((with_reducible refine here_load ?_); first | refine wpList_loadPart_stG H (by rfl) 27 _ rfl rfl row_Berth (by kernel_rfl) (by rfl) _ (arr6_all _ _ _ _ _ _) ?_ | refine wpList_loadPart_stG H (by rfl) 50 _ rfl rfl row_Answer (by kernel_rfl) (by rfl) _ (arr4_all _ _ _ _) ?_ | refine wpList_loadPart_stG H (by rfl) 46 _ rfl rfl row_Queue (by kernel_rfl) (by rfl) _ (qArr_all _ _ _ _ _) ?_) | (first
            | ((with_reducible refine here_load ?_); first | (refine wpList_load_st H rfl 46 _ rfl rfl row_Queue (by kernel_rfl) ?_) | (refine wpList_load_st H rfl 50 _ rfl rfl row_Answer (by kernel_rfl) ?_) | (refine wpList_load_st H rfl 37 _ rfl rfl row_Event (by kernel_rfl) ?_) | (refine wpList_load_st H rfl 27 _ rfl rfl row_Berth (by kernel_rfl) ?_) | (refine wpList_load1_st H rfl 3 _ rfl rfl sc_int (by rfl) ?_) | (refine wpList_load1_stG H (by rfl) 3 _ rfl rfl sc_int (by rfl) ?_) | (refine wpList_load1_st H rfl 4 _ rfl rfl sc_bool (by rfl) ?_) | (refine wpList_load1_stG H (by rfl) 4 _ rfl rfl sc_bool (by rfl) ?_) | (refine wpList_load1_st H rfl 30 _ rfl rfl sc_Errno (by rfl) ?_) | (refine wpList_load1_stG H (by rfl) 30 _ rfl rfl sc_Errno (by rfl) ?_) | (refine wpList_load1_st H rfl 25 _ rfl rfl sc_Evs (by rfl) ?_) | (refine wpList_load1_stG H (by rfl) 25 _ rfl rfl sc_Evs (by rfl) ?_))
            | ((with_reducible refine here_store ?_); first | (refine wpList_store_st H rfl 46 _ _ rfl rfl rfl (by kernel_rfl) (by rfl) (by kernel_rfl) ?_; clear H; intro wx H) | (refine wpList_store_st H rfl 50 _ _ rfl rfl rfl (by kernel_rfl) (by rfl) (by kernel_rfl) ?_; clear H; intro wx H) | (refine wpList_store_st H rfl 37 _ _ rfl rfl rfl (by kernel_rfl) (by rfl) (by kernel_rfl) ?_; clear H; intro wx H) | (refine wpList_store_st H rfl 27 _ _ rfl rfl rfl (by kernel_rfl) (by rfl) (by kernel_rfl) ?_; clear H; intro wx H) | (refine wpList_store1_st H rfl 3 _ _ rfl rfl _ rfl (by rfl) s1_int (by rfl) (by rfl) ?_; clear H; intro wx H) | (refine wpList_store1_st H rfl 4 _ _ rfl rfl _ rfl (by rfl) s1_bool (by rfl) (by rfl) ?_; clear H; intro wx H) | (refine wpList_store1_st H rfl 30 _ _ rfl rfl _ rfl (by rfl) s1_Errno (by rfl) (by rfl) ?_; clear H; intro wx H) | (refine wpList_store1_st H rfl 25 _ _ rfl rfl _ rfl (by rfl) s1_Evs (by rfl) (by rfl) ?_; clear H; intro wx H))
            | ((with_reducible refine here_alloc ?_); first | (refine wpList_alloc_st H rfl 46 rfl _ q_zero ?_; clear H; intro gq9 wx H) | (refine wpList_alloc_st H rfl 50 rfl _ ans_zero ?_; clear H; intro ga9 wx H) | (refine wpList_alloc_st H rfl 37 rfl _ ev_zero ?_; clear H; intro ge9 wx H) | (refine wpList_alloc_st H rfl 27 rfl _ ber_zero ?_; clear H; intro gr9 wx H))
            | ((with_reducible refine here_box ?_); first | (refine wpList_box_st H rfl _ _ rfl _ rfl ?_; clear H; intro gb9 wx H))))
        (try simp only [Act.put])
        replace H : St w wy [.bl gu 27 #[.int .i64 4, .int .i64 q, .int .i64 1, .int .i64 0, .int .i64 0, .slice Au m cu], evIt Au es, .bl gr3 27 #[.int .i64 4, .int .i64 q, .int .i64 1, .int .i64 0, .int .i64 0, .slice At k ct'], evIt At (es.take k), .bl grx 27 #[.int .i64 1, .int .i64 q, .int .i64 0, .int .i64 0, .int .i64 0, .slice Ax m cx], evIt Ax es] := H.subm _
        obtain ⟨b8, off, hA8, hb8, q0, q1, q2, q3, q4, q5⟩ := qevAt (H.get (evIt Ax es)) rfl (show 0 < es.length by have := HK0.out; rw [HL.out]; omega)
        obtain ⟨e, es', hes⟩ := HE.out
        have HEK := Lib.hid (show e.kind ≠ 4 from HNB.out e (by rw [hes]; exact List.mem_cons_self ..))
        have HG := Lib.hid (show es.getD 0 .zero0 = e from by rw [hes]; rfl)
        have HH := Lib.hid (show (es.drop 0).take 1 = [e] from by rw [hes]; rfl)
        rw [HG.out] at q0 q1 q2 q3 q4 q5
        have HA8 := Lib.hid hA8
        clear hes HG HE
        have hm1 : (0 : Int) < (m : Int) := by have := HK0.out; omega
        have hcm : (m : Int) ≤ (cx : Int) := by omega
        obtain ⟨e0, e1, e2, e3, e4, e5⟩ := e
        dsimp only at q0 q1 q2 q3 q4 q5
        simp only [Nat.zero_mul, Nat.add_zero] at q0 q1 q2 q3 q4 q5
        obtain rfl := HA8.out
        have HL9 := Lib.hid (show [(⟨4, e1, e2, e3, e4, e5⟩ : Ev)].length = 1 from rfl)
        have HNE := Lib.hid (show ¬ ((es.take k).drop 0).take 1 = ([(⟨4, e1, e2, e3, e4, e5⟩ : Ev)].drop 0).take 1 from by
          have h1 := HH.out
          have h2 := HEK.out
          have h3 := HK0.out
          rw [List.drop_zero] at h1
          rw [List.drop_zero, List.take_take, show min 1 k = 1 by omega, h1]
          intro h4
          simp at h4
          exact h2 h4)
        have C5 := Lib.hid (fun W J (H : St w W J) A c (hc : k ≤ c) B d (hd : 1 ≤ d) (hI : Has J (evIt A (es.take k))) (hI2 : Has J (evIt B [⟨4, e1, e2, e3, e4, e5⟩])) => (show Calls Try.prog 31 #[.agg #[.int .i64 4, .int .i64 q, .int .i64 1, .int .i64 0, .int .i64 0, .slice A k c], .int .i64 q, .int .i64 0, .slice B 1 d, .bool false] W (fun ed w' => ∃ A' c', ed = .returned (.tuple #[.agg #[.int .i64 0, .int .i64 0, .int .i64 0, .int .i64 0, .int .i64 0, .slice A' 0 c'], .int .i64 3]) ∧ 0 ≤ c' ∧ St w w' (evIt A' [] :: J)) from by
          have h := import_unlike (h := hI) (h2 := hI2) (w0 := w) (w := W) (I := J) q 1 0 0 (es.take k) [⟨4, e1, e2, e3, e4, e5⟩] A B k c 1 d 40 0 1 false HLT.out HL9.out HT.out (by omega) (by omega) hc hd (by omega) (by have := HK0.out; omega) HNE.out H
          exact bpost_to HL0.out h))
        go_upto_region 15 with (first
            | ((with_reducible refine here_load ?_); first | (refine wpList_load_st H rfl 46 _ rfl rfl row_Queue (by kernel_rfl) ?_) | (refine wpList_load_st H rfl 50 _ rfl rfl row_Answer (by kernel_rfl) ?_) | (refine wpList_load_st H rfl 37 _ rfl rfl row_Event (by kernel_rfl) ?_) | (refine wpList_load_st H rfl 27 _ rfl rfl row_Berth (by kernel_rfl) ?_) | (refine wpList_load1_st H rfl 3 _ rfl rfl sc_int (by rfl) ?_) | (refine wpList_load1_stG H (by rfl) 3 _ rfl rfl sc_int (by rfl) ?_) | (refine wpList_load1_st H rfl 4 _ rfl rfl sc_bool (by rfl) ?_) | (refine wpList_load1_stG H (by rfl) 4 _ rfl rfl sc_bool (by rfl) ?_) | (refine wpList_load1_st H rfl 30 _ rfl rfl sc_Errno (by rfl) ?_) | (refine wpList_load1_stG H (by rfl) 30 _ rfl rfl sc_Errno (by rfl) ?_) | (refine wpList_load1_st H rfl 25 _ rfl rfl sc_Evs (by rfl) ?_) | (refine wpList_load1_stG H (by rfl) 25 _ rfl rfl sc_Evs (by rfl) ?_))
            | ((with_reducible refine here_store ?_); first | (refine wpList_store_st H rfl 46 _ _ rfl rfl rfl (by kernel_rfl) (by rfl) (by kernel_rfl) ?_; clear H; intro wx H) | (refine wpList_store_st H rfl 50 _ _ rfl rfl rfl (by kernel_rfl) (by rfl) (by kernel_rfl) ?_; clear H; intro wx H) | (refine wpList_store_st H rfl 37 _ _ rfl rfl rfl (by kernel_rfl) (by rfl) (by kernel_rfl) ?_; clear H; intro wx H) | (refine wpList_store_st H rfl 27 _ _ rfl rfl rfl (by kernel_rfl) (by rfl) (by kernel_rfl) ?_; clear H; intro wx H) | (refine wpList_store1_st H rfl 3 _ _ rfl rfl _ rfl (by rfl) s1_int (by rfl) (by rfl) ?_; clear H; intro wx H) | (refine wpList_store1_st H rfl 4 _ _ rfl rfl _ rfl (by rfl) s1_bool (by rfl) (by rfl) ?_; clear H; intro wx H) | (refine wpList_store1_st H rfl 30 _ _ rfl rfl _ rfl (by rfl) s1_Errno (by rfl) (by rfl) ?_; clear H; intro wx H) | (refine wpList_store1_st H rfl 25 _ _ rfl rfl _ rfl (by rfl) s1_Evs (by rfl) (by rfl) ?_; clear H; intro wx H))
            | ((with_reducible refine here_alloc ?_); first | (refine wpList_alloc_st H rfl 46 rfl _ q_zero ?_; clear H; intro gq10 wx H) | (refine wpList_alloc_st H rfl 50 rfl _ ans_zero ?_; clear H; intro ga10 wx H) | (refine wpList_alloc_st H rfl 37 rfl _ ev_zero ?_; clear H; intro ge10 wx H) | (refine wpList_alloc_st H rfl 27 rfl _ ber_zero ?_; clear H; intro gr10 wx H))
            | ((with_reducible refine here_box ?_); first | (refine wpList_box_st H rfl _ _ rfl _ rfl ?_; clear H; intro gb10 wx H)))
        (try simp only [Act.put])
        go_upto_region 16 with (first | ((with_reducible refine here_buildSlice ?_); refine wpList_buildSlice1_st H rfl 25 _ rfl 37 Try.underlying25 _ rfl _ ev_info2 (by rfl) (by rfl) ?_; clear H; intro gs wx H; replace H := H.oneEv) | (go_at_call 31; with_reducible refine (C5.out _ _ H At ct' hct (some ⟨gs, 0, none⟩) 1 (Nat.le_refl _) inferInstance inferInstance).mono ?_; clear H; rintro ed wy ⟨A5, c5, rfl, hc5, H⟩) | (first
            | ((with_reducible refine here_load ?_); first | (refine wpList_load_st H rfl 46 _ rfl rfl row_Queue (by kernel_rfl) ?_) | (refine wpList_load_st H rfl 50 _ rfl rfl row_Answer (by kernel_rfl) ?_) | (refine wpList_load_st H rfl 37 _ rfl rfl row_Event (by kernel_rfl) ?_) | (refine wpList_load_st H rfl 27 _ rfl rfl row_Berth (by kernel_rfl) ?_) | (refine wpList_load1_st H rfl 3 _ rfl rfl sc_int (by rfl) ?_) | (refine wpList_load1_stG H (by rfl) 3 _ rfl rfl sc_int (by rfl) ?_) | (refine wpList_load1_st H rfl 4 _ rfl rfl sc_bool (by rfl) ?_) | (refine wpList_load1_stG H (by rfl) 4 _ rfl rfl sc_bool (by rfl) ?_) | (refine wpList_load1_st H rfl 30 _ rfl rfl sc_Errno (by rfl) ?_) | (refine wpList_load1_stG H (by rfl) 30 _ rfl rfl sc_Errno (by rfl) ?_) | (refine wpList_load1_st H rfl 25 _ rfl rfl sc_Evs (by rfl) ?_) | (refine wpList_load1_stG H (by rfl) 25 _ rfl rfl sc_Evs (by rfl) ?_))
            | ((with_reducible refine here_store ?_); first | (refine wpList_store_st H rfl 46 _ _ rfl rfl rfl (by kernel_rfl) (by rfl) (by kernel_rfl) ?_; clear H; intro wx H) | (refine wpList_store_st H rfl 50 _ _ rfl rfl rfl (by kernel_rfl) (by rfl) (by kernel_rfl) ?_; clear H; intro wx H) | (refine wpList_store_st H rfl 37 _ _ rfl rfl rfl (by kernel_rfl) (by rfl) (by kernel_rfl) ?_; clear H; intro wx H) | (refine wpList_store_st H rfl 27 _ _ rfl rfl rfl (by kernel_rfl) (by rfl) (by kernel_rfl) ?_; clear H; intro wx H) | (refine wpList_store1_st H rfl 3 _ _ rfl rfl _ rfl (by rfl) s1_int (by rfl) (by rfl) ?_; clear H; intro wx H) | (refine wpList_store1_st H rfl 4 _ _ rfl rfl _ rfl (by rfl) s1_bool (by rfl) (by rfl) ?_; clear H; intro wx H) | (refine wpList_store1_st H rfl 30 _ _ rfl rfl _ rfl (by rfl) s1_Errno (by rfl) (by rfl) ?_; clear H; intro wx H) | (refine wpList_store1_st H rfl 25 _ _ rfl rfl _ rfl (by rfl) s1_Evs (by rfl) (by rfl) ?_; clear H; intro wx H))
            | ((with_reducible refine here_alloc ?_); first | (refine wpList_alloc_st H rfl 46 rfl _ q_zero ?_; clear H; intro gq11 wx H) | (refine wpList_alloc_st H rfl 50 rfl _ ans_zero ?_; clear H; intro ga11 wx H) | (refine wpList_alloc_st H rfl 37 rfl _ ev_zero ?_; clear H; intro ge11 wx H) | (refine wpList_alloc_st H rfl 27 rfl _ ber_zero ?_; clear H; intro gr11 wx H))
            | ((with_reducible refine here_box ?_); first | (refine wpList_box_st H rfl _ _ rfl _ rfl ?_; clear H; intro gb11 wx H))))
        (try simp only [Act.put])
        replace H : St w wx [.bl grx 27 #[.int .i64 1, .int .i64 q, .int .i64 0, .int .i64 0, .int .i64 0, .slice (some ⟨b8, off, none⟩) m cx], evIt (some ⟨b8, off, none⟩) es] := H.subm _
        refine startS H (by kernel_rfl) (fun HS => ?_)
        replace H := HS
        refine takeMove (i := 0) rfl rfl _ (by rfl) (by kernel_rfl) (by kernel_rfl) (by kernel_rfl) (fun _ _ _ _ h => h) (by rfl) HS ?_
        (try simp only [Act.put, List.setIfInBounds_toArray, List.set_cons_zero, List.set_cons_succ])
        refine takeV (i := 1) (v := ?_) rfl (by kernel_rfl) (by kernel_rfl) (by kernel_rfl) (fun _ _ _ h => h) (by rfl) ?_ HS ?_
        rotate_left
        · (intro W hW; go_simp; try with_reducible rfl)
        (try simp only [Act.put, List.setIfInBounds_toArray, List.set_cons_zero, List.set_cons_succ])
        refine takeMove (i := 2) rfl rfl _ (by rfl) (by kernel_rfl) (by kernel_rfl) (by kernel_rfl) (fun _ _ _ _ h => h) (by rfl) HS ?_
        (try simp only [Act.put, List.setIfInBounds_toArray, List.set_cons_zero, List.set_cons_succ])
        refine takeSkip (i := 3) rfl (by kernel_rfl) (by kernel_rfl) (by kernel_rfl) (fun _ _ _ _ h => h) (by rfl) HS ?_
        (try simp only [Act.put, List.setIfInBounds_toArray, List.set_cons_zero, List.set_cons_succ])
        refine takeSkip (i := 4) rfl (by kernel_rfl) (by kernel_rfl) (by kernel_rfl) (fun _ _ _ _ h => h) (by rfl) HS ?_
        (try simp only [Act.put, List.setIfInBounds_toArray, List.set_cons_zero, List.set_cons_succ])
        refine takeSkip (i := 5) rfl (by kernel_rfl) (by kernel_rfl) (by kernel_rfl) (fun _ _ _ _ h => h) (by rfl) HS ?_
        (try simp only [Act.put, List.setIfInBounds_toArray, List.set_cons_zero, List.set_cons_succ])
        refine takeSkip (i := 6) rfl (by kernel_rfl) (by kernel_rfl) (by kernel_rfl) (fun _ _ _ _ h => h) (by rfl) HS ?_
        (try simp only [Act.put, List.setIfInBounds_toArray, List.set_cons_zero, List.set_cons_succ])
        refine takeSkip (i := 7) rfl (by kernel_rfl) (by kernel_rfl) (by kernel_rfl) (fun _ _ _ _ h => h) (by rfl) HS ?_
        (try simp only [Act.put, List.setIfInBounds_toArray, List.set_cons_zero, List.set_cons_succ])
        refine takeSkip (i := 8) rfl (by kernel_rfl) (by kernel_rfl) (by kernel_rfl) (fun _ _ _ _ h => h) (by rfl) HS ?_
        (try simp only [Act.put, List.setIfInBounds_toArray, List.set_cons_zero, List.set_cons_succ])
        refine takeV (i := 9) (v := ?_) rfl (by kernel_rfl) (by kernel_rfl) (by kernel_rfl) (fun _ _ _ h => h) (by rfl) ?_ HS ?_
        rotate_left
        · (intro W hW; go_simp; try with_reducible rfl)
        (try simp only [Act.put, List.setIfInBounds_toArray, List.set_cons_zero, List.set_cons_succ])
        refine takeAssign (i := 10) rfl rfl _ (by rfl) (by kernel_rfl) (by kernel_rfl) (by kernel_rfl) (fun _ _ _ _ h => h) (by rfl) HS ?_
        (try simp only [Act.put, List.setIfInBounds_toArray, List.set_cons_zero, List.set_cons_succ])
        refine doneH (by kernel_rfl) ?_
        go_wp2_with fail
        go_ret
        exact ⟨rfl, H.bel⟩


end Go.Proofs.Ytjgbkicnagcmdaa
