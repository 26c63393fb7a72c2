/- ImportLast: the walk. -/
import Derived.Test.YtjgbkicnagcmdaaBL
namespace Go.Proofs.Ytjgbkicnagcmdaa
open Go.RowKit

set_option maxRecDepth 100000 in
set_option maxHeartbeats 8000000 in
theorem importLast_walk (ep : Int) (A : Option Addr) (n c : Nat) (rows : List (List Int)) (ct : Int) (w : World) (h0 : Is64 ep) (h : IsRows 4 32 w A n c rows) (h2 : Is64 ct) :
    Calls Try.prog 12 #[.int .i64 ep, .slice A n c, .int .i64 ct] w fun e w' => e = .returned (.bool true) ∧ Below w.heap.size w w' := by
  have H := St.start w
  have SV0 := fun W J (H : St w W J) => served_st (w0 := w) (w := W) (I := J) ep A n c 30 rows h0 h (by omega) H
  have p0 := pick_lo ep 1000 (by omega)
  have p1 := pick_hi ep 1000 (by omega)
  obtain ⟨q, hq⟩ : ∃ q, 1 + pick ep 1000 = q := ⟨_, rfl⟩
  rw [hq] at SV0
  have hq1 : 1 ≤ q := by omega
  have hq2 : q ≤ 1000 := by omega
  clear hq p0 p1
  obtain ⟨es, hsv, hm0, hx0, hnb0⟩ := served_is q rows hq1 (by omega) (min n 30)
  rw [hsv] at SV0
  have hm : es.length ≤ 30 := by omega
  have HX := Lib.hid (hx0.more (show min n 30 ≤ 30 by omega))
  obtain ⟨m, hl⟩ : ∃ m, es.length = m := ⟨_, rfl⟩
  rw [hl] at hm
  have SV := Lib.hid (fun W J (H : St w W J) => (show Calls Try.prog 15 #[.int .i64 ep, .slice A n c, .int .i64 30] W (fun ed w' => ∃ A c, ed = .returned (.tuple #[.agg #[.int .i64 1, .int .i64 q, .int .i64 0, .int .i64 0, .int .i64 0, .slice A m c], .bool true]) ∧ m ≤ c ∧ St w w' (evIt A es :: J)) from vpost_to hl (SV0 W J H)))
  have HL := Lib.hid hl
  have HZ := Lib.hid (BM.zero_ok)
  have HNB := Lib.hid hnb0
  have HL0 := Lib.hid (show ([] : List Ev).length = 0 from rfl)
  clear SV0 hsv hm0 hx0 hl hnb0
  have PA := Lib.hid (fun W => (picked_any ct ((m : Int) + 1) W (h2).1 (h2).2 (by omega) (by omega)).mono (fun e w' h => (⟨h.1, h.2.symm⟩ : e = .returned (.int .i64 (pick ct ((m : Int) + 1))) ∧ w' = W)))
  have k_l := pick_lo ct ((m : Int) + 1) (by omega)
  have k_h := pick_hi ct ((m : Int) + 1) (by omega)
  obtain ⟨k_, hk_⟩ : ∃ x, pick ct ((m : Int) + 1) = x := ⟨_, rfl⟩
  rw [hk_] at PA k_l k_h
  clear hk_
  obtain ⟨k, rfl⟩ : ∃ x : Nat, k_ = (x : Int) := ⟨k_.toNat, by omega⟩
  have hkm : k ≤ m := by omega
  have w1 : IntKind.i64.wrap ((m : Int) + 1) = (m : Int) + 1 := IntWalk.i64_in _ (by omega)
  have w2 : IntKind.i64.wrap (q + 1) = q + 1 := IntWalk.i64_in _ (by omega)
  have HLT := Lib.hid (show (es.take k).length = k from by rw [List.length_take, HL.out]; omega)
  have HLD := Lib.hid (show (es.drop k).length = m - k from by rw [List.length_drop, HL.out])
  have HL1 := Lib.hid (show (es ++ [(⟨4, 0, 0, 0, 0, 0⟩ : Ev)]).length = m + 1 from by rw [List.length_append, HL.out]; rfl)
  have C1 := Lib.hid (fun W J (H : St w W J) A c (hc : 0 ≤ c) (hI : Has J (evIt A [])) => (show Calls Try.prog 30 #[.agg #[.int .i64 0, .int .i64 0, .int .i64 0, .int .i64 0, .int .i64 0, .slice A 0 c], .int .i64 (q + 1), .int .i64 0] W (fun ed w' => ∃ A' c', ed = .returned (.tuple #[.agg #[.int .i64 4, .int .i64 (q + 1), .int .i64 0, .int .i64 0, .int .i64 0, .slice A' 0 c'], .int .i64 0]) ∧ 0 ≤ c' ∧ St w w' (evIt A' [] :: J)) from by
    have h := begin_st (h := hI) (w0 := w) (w := W) (I := J) ⟨0, 0, 0, 0, 0, []⟩ A 0 c 0 (q + 1) 0 HL0.out HZ.out (by omega) hc H
    rw [show BM.beginR ⟨0, 0, 0, 0, 0, []⟩ (q + 1) (0) = (⟨4, (q + 1), 0, 0, 0, []⟩, 0) from (by have hl := HL.out; unfold BM.beginR; dsimp only; repeat (first | rw [if_pos (by omega)] | rw [if_neg (by omega)]); try rfl)] at h
    exact bpost_to HL0.out h))
  have HT0 := Lib.hid (show (⟨4, (q + 1), 0, 0, 0, []⟩ : BM).Ok 30 from HX.out.cut 0 (by unfold BM.Shape; dsimp only; omega) (by simp))
  have HT := Lib.hid (show (⟨4, (q + 1), 0, 0, 0, es.take k⟩ : BM).Ok 30 from HX.out.cut k (by unfold BM.Shape; dsimp only; omega) rfl)
  have HU0 := Lib.hid (show (⟨1, (q + 1), 0, 0, 0, es⟩ : BM).Ok 30 from HX.out.same (by unfold BM.Shape; dsimp only; omega) rfl)
  have HU := Lib.hid (show (⟨1, (q + 1), 0, 0, 0, (es ++ [(⟨4, 0, 0, 0, 0, 0⟩ : Ev)])⟩ : BM).Ok 31 from (HU0.out.brk (show (1 : Int) ≠ 0 by decide)).2.2)
  have C2 := Lib.hid (fun W J (H : St w W J) A c (hc : 0 ≤ c) B d (hd : k ≤ d) (hI : Has J (evIt A [])) (hI2 : Has J (evIt B (es.take k))) => (show Calls Try.prog 31 #[.agg #[.int .i64 4, .int .i64 (q + 1), .int .i64 0, .int .i64 0, .int .i64 0, .slice A 0 c], .int .i64 (q + 1), .int .i64 0, .slice B k d, .bool false] W (fun ed w' => ∃ A' c', ed = .returned (.tuple #[.agg #[.int .i64 4, .int .i64 (q + 1), .int .i64 0, .int .i64 0, .int .i64 0, .slice A' k c'], .int .i64 0]) ∧ k ≤ c' ∧ St w w' (evIt A' (es.take k) :: J)) from by
    have h := import_on (h := hI) (h2 := hI2) (w0 := w) (w := W) (I := J) (q + 1) 0 0 0 [] (es.take k) A B 0 c k d 30 0 0 30 HL0.out HLT.out HT0.out (by omega) (by omega) hc hd (by omega) (by omega) (by simp) (by simpa using HT.out) (by omega) H
    rw [show ([] : List Ev) ++ (es.take k).drop 0 = es.take k from by simp] at h
    exact bpost_to HLT.out h))
  have C3 := Lib.hid (fun W J (H : St w W J) A c (hc : k ≤ c) B d (hd : m - k ≤ d) (hI : Has J (evIt A (es.take k))) (hI2 : Has J (evIt B (es.drop k))) => (show Calls Try.prog 31 #[.agg #[.int .i64 4, .int .i64 (q + 1), .int .i64 0, .int .i64 0, .int .i64 0, .slice A k c], .int .i64 (q + 1), .int .i64 k, .slice B (m - k) d, .bool true] W (fun ed w' => ∃ A' c', ed = .returned (.tuple #[.agg #[.int .i64 1, .int .i64 (q + 1), .int .i64 0, .int .i64 0, .int .i64 0, .slice A' (m + 1) c'], .int .i64 0]) ∧ m + 1 ≤ c' ∧ St w w' (evIt A' (es ++ [(⟨4, 0, 0, 0, 0, 0⟩ : Ev)]) :: J)) from by
    have h := import_last (h := hI) (h2 := hI2) (w0 := w) (w := W) (I := J) (q + 1) 0 0 0 (es.take k) (es.drop k) A B k c (m - k) d 30 k 0 31 HLT.out HLD.out HT.out (by omega) (by omega) hc hd (Nat.le_refl _) (by omega) (by simp) (by omega) (by rw [show es.take k ++ (es.drop k).drop 0 = es from by simp]; exact HU.out) (by omega) H
    rw [show es.take k ++ (es.drop k).drop 0 = es from by simp] at h
    exact bpost_to HL1.out h))
  have C4 := Lib.hid (fun W J (H : St w W J) A c (hc : m + 1 ≤ c) B d (hd : m - k ≤ d) (hI : Has J (evIt A (es ++ [(⟨4, 0, 0, 0, 0, 0⟩ : Ev)]))) (hI2 : Has J (evIt B (es.drop k))) => (show Calls Try.prog 31 #[.agg #[.int .i64 1, .int .i64 (q + 1), .int .i64 0, .int .i64 0, .int .i64 0, .slice A (m + 1) c], .int .i64 (q + 1), .int .i64 k, .slice B (m - k) d, .bool true] W (fun ed w' => ∃ A' c', ed = .returned (.tuple #[.agg #[.int .i64 0, .int .i64 0, .int .i64 0, .int .i64 0, .int .i64 0, .slice A' 0 c'], .int .i64 7]) ∧ 0 ≤ c' ∧ St w w' (evIt A' [] :: J)) from by
    have h := import_none1 (h := hI) (h2 := hI2) (w0 := w) (w := W) (I := J) (q + 1) 0 0 0 (q + 1) k (es ++ [(⟨4, 0, 0, 0, 0, 0⟩ : Ev)]) (es.drop k) A B (m + 1) c (m - k) d 31 true HL1.out HLD.out HU.out (by omega) (by omega) hc hd  H
    exact bpost_to HL0.out h))
  have C5 := Lib.hid (fun W J (H : St w W J) A c (hc : k ≤ c) B d (hd : m - k ≤ d) (hI : Has J (evIt A (es.take k))) (hI2 : Has J (evIt B (es.drop k))) => (show Calls Try.prog 31 #[.agg #[.int .i64 4, .int .i64 (q + 1), .int .i64 0, .int .i64 0, .int .i64 0, .slice A k c], .int .i64 q, .int .i64 k, .slice B (m - k) d, .bool true] W (fun ed w' => ∃ A' c', ed = .returned (.tuple #[.agg #[.int .i64 0, .int .i64 0, .int .i64 0, .int .i64 0, .int .i64 0, .slice A' 0 c'], .int .i64 15]) ∧ 0 ≤ c' ∧ St w w' (evIt A' [] :: J)) from by
    have h := import_epoch (h := hI) (h2 := hI2) (w0 := w) (w := W) (I := J) (q + 1) 0 0 0 q k (es.take k) (es.drop k) A B k c (m - k) d 30 true HLT.out HLD.out HT.out (by omega) (by omega) hc hd (by omega) H
    exact bpost_to HL0.out h))
  clear h0 h2 h
  go_enter Try.func12, Try.ntmps12
  go_upto_region 2 with (first | (go_at_call 15; with_reducible refine (SV.out _ _ H).mono ?_; clear H; rintro ed wy ⟨Ax, cx, rfl, hcx, H⟩) | (first
      | ((with_reducible refine here_load ?_); first | (refine wpList_load_st H rfl 46 _ rfl rfl row_Queue (by kernel_rfl) ?_) | (refine wpList_load_st H rfl 50 _ rfl rfl row_Answer (by kernel_rfl) ?_) | (refine wpList_load_st H rfl 37 _ rfl rfl row_Event (by kernel_rfl) ?_) | (refine wpList_load_st H rfl 27 _ rfl rfl row_Berth (by kernel_rfl) ?_) | (refine wpList_load1_st H rfl 3 _ rfl rfl sc_int (by rfl) ?_) | (refine wpList_load1_stG H (by rfl) 3 _ rfl rfl sc_int (by rfl) ?_) | (refine wpList_load1_st H rfl 4 _ rfl rfl sc_bool (by rfl) ?_) | (refine wpList_load1_stG H (by rfl) 4 _ rfl rfl sc_bool (by rfl) ?_) | (refine wpList_load1_st H rfl 30 _ rfl rfl sc_Errno (by rfl) ?_) | (refine wpList_load1_stG H (by rfl) 30 _ rfl rfl sc_Errno (by rfl) ?_) | (refine wpList_load1_st H rfl 25 _ rfl rfl sc_Evs (by rfl) ?_) | (refine wpList_load1_stG H (by rfl) 25 _ rfl rfl sc_Evs (by rfl) ?_))
      | ((with_reducible refine here_store ?_); first | (refine wpList_store_st H rfl 46 _ _ rfl rfl rfl (by kernel_rfl) (by rfl) (by kernel_rfl) ?_; clear H; intro wx H) | (refine wpList_store_st H rfl 50 _ _ rfl rfl rfl (by kernel_rfl) (by rfl) (by kernel_rfl) ?_; clear H; intro wx H) | (refine wpList_store_st H rfl 37 _ _ rfl rfl rfl (by kernel_rfl) (by rfl) (by kernel_rfl) ?_; clear H; intro wx H) | (refine wpList_store_st H rfl 27 _ _ rfl rfl rfl (by kernel_rfl) (by rfl) (by kernel_rfl) ?_; clear H; intro wx H) | (refine wpList_store1_st H rfl 3 _ _ rfl rfl _ rfl (by rfl) s1_int (by rfl) (by rfl) ?_; clear H; intro wx H) | (refine wpList_store1_st H rfl 4 _ _ rfl rfl _ rfl (by rfl) s1_bool (by rfl) (by rfl) ?_; clear H; intro wx H) | (refine wpList_store1_st H rfl 30 _ _ rfl rfl _ rfl (by rfl) s1_Errno (by rfl) (by rfl) ?_; clear H; intro wx H) | (refine wpList_store1_st H rfl 25 _ _ rfl rfl _ rfl (by rfl) s1_Evs (by rfl) (by rfl) ?_; clear H; intro wx H))
      | ((with_reducible refine here_alloc ?_); first | (refine wpList_alloc_st H rfl 46 rfl _ q_zero ?_; clear H; intro gqx wx H) | (refine wpList_alloc_st H rfl 50 rfl _ ans_zero ?_; clear H; intro gax wx H) | (refine wpList_alloc_st H rfl 37 rfl _ ev_zero ?_; clear H; intro gex wx H) | (refine wpList_alloc_st H rfl 27 rfl _ ber_zero ?_; clear H; intro grx wx H))
      | ((with_reducible refine here_box ?_); first | (refine wpList_box_st H rfl _ _ rfl _ rfl ?_; clear H; intro gbx wx H))))
  (try simp only [Act.put])
  go_upto_region 3 with (first | (go_at_call 17; with_reducible refine (PA.out _).mono ?_; rintro ed wy ⟨rfl, rfl⟩) | (first
      | ((with_reducible refine here_load ?_); first | (refine wpList_load_st H rfl 46 _ rfl rfl row_Queue (by kernel_rfl) ?_) | (refine wpList_load_st H rfl 50 _ rfl rfl row_Answer (by kernel_rfl) ?_) | (refine wpList_load_st H rfl 37 _ rfl rfl row_Event (by kernel_rfl) ?_) | (refine wpList_load_st H rfl 27 _ rfl rfl row_Berth (by kernel_rfl) ?_) | (refine wpList_load1_st H rfl 3 _ rfl rfl sc_int (by rfl) ?_) | (refine wpList_load1_stG H (by rfl) 3 _ rfl rfl sc_int (by rfl) ?_) | (refine wpList_load1_st H rfl 4 _ rfl rfl sc_bool (by rfl) ?_) | (refine wpList_load1_stG H (by rfl) 4 _ rfl rfl sc_bool (by rfl) ?_) | (refine wpList_load1_st H rfl 30 _ rfl rfl sc_Errno (by rfl) ?_) | (refine wpList_load1_stG H (by rfl) 30 _ rfl rfl sc_Errno (by rfl) ?_) | (refine wpList_load1_st H rfl 25 _ rfl rfl sc_Evs (by rfl) ?_) | (refine wpList_load1_stG H (by rfl) 25 _ rfl rfl sc_Evs (by rfl) ?_))
      | ((with_reducible refine here_store ?_); first | (refine wpList_store_st H rfl 46 _ _ rfl rfl rfl (by kernel_rfl) (by rfl) (by kernel_rfl) ?_; clear H; intro wx H) | (refine wpList_store_st H rfl 50 _ _ rfl rfl rfl (by kernel_rfl) (by rfl) (by kernel_rfl) ?_; clear H; intro wx H) | (refine wpList_store_st H rfl 37 _ _ rfl rfl rfl (by kernel_rfl) (by rfl) (by kernel_rfl) ?_; clear H; intro wx H) | (refine wpList_store_st H rfl 27 _ _ rfl rfl rfl (by kernel_rfl) (by rfl) (by kernel_rfl) ?_; clear H; intro wx H) | (refine wpList_store1_st H rfl 3 _ _ rfl rfl _ rfl (by rfl) s1_int (by rfl) (by rfl) ?_; clear H; intro wx H) | (refine wpList_store1_st H rfl 4 _ _ rfl rfl _ rfl (by rfl) s1_bool (by rfl) (by rfl) ?_; clear H; intro wx H) | (refine wpList_store1_st H rfl 30 _ _ rfl rfl _ rfl (by rfl) s1_Errno (by rfl) (by rfl) ?_; clear H; intro wx H) | (refine wpList_store1_st H rfl 25 _ _ rfl rfl _ rfl (by rfl) s1_Evs (by rfl) (by rfl) ?_; clear H; intro wx H))
      | ((with_reducible refine here_alloc ?_); first | (refine wpList_alloc_st H rfl 46 rfl _ q_zero ?_; clear H; intro gq2 wx H) | (refine wpList_alloc_st H rfl 50 rfl _ ans_zero ?_; clear H; intro ga2 wx H) | (refine wpList_alloc_st H rfl 37 rfl _ ev_zero ?_; clear H; intro ge2 wx H) | (refine wpList_alloc_st H rfl 27 rfl _ ber_zero ?_; clear H; intro gr2 wx H))
      | ((with_reducible refine here_box ?_); first | (refine wpList_box_st H rfl _ _ rfl _ rfl ?_; clear H; intro gb2 wx H))))
  (try simp only [Act.put])
  go_upto_region 4 with (first | (go_at_call 30; replace H := H.noEv; with_reducible refine (C1.out _ _ H none 0 (Nat.le_refl _) inferInstance).mono ?_; clear H; rintro ed wy ⟨A1, c1, rfl, hc1, H⟩) | (first
      | ((with_reducible refine here_load ?_); first | (refine wpList_load_st H rfl 46 _ rfl rfl row_Queue (by kernel_rfl) ?_) | (refine wpList_load_st H rfl 50 _ rfl rfl row_Answer (by kernel_rfl) ?_) | (refine wpList_load_st H rfl 37 _ rfl rfl row_Event (by kernel_rfl) ?_) | (refine wpList_load_st H rfl 27 _ rfl rfl row_Berth (by kernel_rfl) ?_) | (refine wpList_load1_st H rfl 3 _ rfl rfl sc_int (by rfl) ?_) | (refine wpList_load1_stG H (by rfl) 3 _ rfl rfl sc_int (by rfl) ?_) | (refine wpList_load1_st H rfl 4 _ rfl rfl sc_bool (by rfl) ?_) | (refine wpList_load1_stG H (by rfl) 4 _ rfl rfl sc_bool (by rfl) ?_) | (refine wpList_load1_st H rfl 30 _ rfl rfl sc_Errno (by rfl) ?_) | (refine wpList_load1_stG H (by rfl) 30 _ rfl rfl sc_Errno (by rfl) ?_) | (refine wpList_load1_st H rfl 25 _ rfl rfl sc_Evs (by rfl) ?_) | (refine wpList_load1_stG H (by rfl) 25 _ rfl rfl sc_Evs (by rfl) ?_))
      | ((with_reducible refine here_store ?_); first | (refine wpList_store_st H rfl 46 _ _ rfl rfl rfl (by kernel_rfl) (by rfl) (by kernel_rfl) ?_; clear H; intro wx H) | (refine wpList_store_st H rfl 50 _ _ rfl rfl rfl (by kernel_rfl) (by rfl) (by kernel_rfl) ?_; clear H; intro wx H) | (refine wpList_store_st H rfl 37 _ _ rfl rfl rfl (by kernel_rfl) (by rfl) (by kernel_rfl) ?_; clear H; intro wx H) | (refine wpList_store_st H rfl 27 _ _ rfl rfl rfl (by kernel_rfl) (by rfl) (by kernel_rfl) ?_; clear H; intro wx H) | (refine wpList_store1_st H rfl 3 _ _ rfl rfl _ rfl (by rfl) s1_int (by rfl) (by rfl) ?_; clear H; intro wx H) | (refine wpList_store1_st H rfl 4 _ _ rfl rfl _ rfl (by rfl) s1_bool (by rfl) (by rfl) ?_; clear H; intro wx H) | (refine wpList_store1_st H rfl 30 _ _ rfl rfl _ rfl (by rfl) s1_Errno (by rfl) (by rfl) ?_; clear H; intro wx H) | (refine wpList_store1_st H rfl 25 _ _ rfl rfl _ rfl (by rfl) s1_Evs (by rfl) (by rfl) ?_; clear H; intro wx H))
      | ((with_reducible refine here_alloc ?_); first | (refine wpList_alloc_st H rfl 46 rfl _ q_zero ?_; clear H; intro gq3 wx H) | (refine wpList_alloc_st H rfl 50 rfl _ ans_zero ?_; clear H; intro ga3 wx H) | (refine wpList_alloc_st H rfl 37 rfl _ ev_zero ?_; clear H; intro ge3 wx H) | (refine wpList_alloc_st H rfl 27 rfl _ ber_zero ?_; clear H; intro gr3 wx H))
      | ((with_reducible refine here_box ?_); first | (refine wpList_box_st H rfl _ _ rfl _ rfl ?_; clear H; intro gb3 wx H))))
  (try simp only [Act.put])
  replace H : St w wx [.bl gr3 27 #[.int .i64 4, .int .i64 (q + 1), .int .i64 0, .int .i64 0, .int .i64 0, .slice A1 0 c1], evIt A1 [], .bl grx 27 #[.int .i64 1, .int .i64 q, .int .i64 0, .int .i64 0, .int .i64 0, .slice Ax m cx], evIt Ax es] := H.subm _
  go_cut [7, 8, 9, 10, 11, 12] (fun s7 s8 s9 s10 s11 s12 wx => ∃ At ct', s7 = .pointer (some ⟨grx, 0, none⟩) ∧ s8 = .bool true ∧ s9 = .int .i64 k ∧ s10 = .pointer (some ⟨gr3, 0, none⟩) ∧ s11 = .int .i64 0 ∧ s12 = .int .i64 0 ∧ k ≤ ct' ∧ St w wx [.bl gr3 27 #[.int .i64 4, .int .i64 (q + 1), .int .i64 0, .int .i64 0, .int .i64 0, .slice At k ct'], evIt At (es.take k), .bl grx 27 #[.int .i64 1, .int .i64 q, .int .i64 0, .int .i64 0, .int .i64 0, .slice Ax m cx], evIt Ax es])
  case first =>
    refine startS (H.subm (.bl grx 27 #[.int .i64 1, .int .i64 q, .int .i64 0, .int .i64 0, .int .i64 0, .slice Ax m cx] :: evIt Ax es :: [])) (by kernel_rfl) (fun HS => ?_)
    replace H := H.drew
    refine takeV (i := 1) (v := ?_) rfl (by kernel_rfl) (by kernel_rfl) (by kernel_rfl) (fun _ _ _ h => h) (by rfl) ?_ HS ?_
    rotate_left
    · (intro W hW; go_simp; try with_reducible rfl)
    (try simp only [Act.put, List.setIfInBounds_toArray, List.set_cons_zero, List.set_cons_succ])
    refine take1_st (i := 2) 3 _ rfl rfl rfl sc_int _ (by rfl) (by kernel_rfl) (by kernel_rfl) (by kernel_rfl) (fun _ _ _ _ h => h) (by rfl) HS ?_
    (try simp only [Act.put, List.setIfInBounds_toArray, List.set_cons_zero, List.set_cons_succ])
    refine takeV (i := 3) (v := ?_) rfl (by kernel_rfl) (by kernel_rfl) (by kernel_rfl) (fun _ _ _ h => h) (by rfl) ?_ HS ?_
    rotate_left
    · (intro W hW; go_simp; try with_reducible rfl)
    (try simp only [Act.put, List.setIfInBounds_toArray, List.set_cons_zero, List.set_cons_succ])
    refine takeV (i := 4) (v := ?_) rfl (by kernel_rfl) (by kernel_rfl) (by kernel_rfl) (fun _ _ _ h => h) (by rfl) ?_ HS ?_
    rotate_left
    · (intro W hW; go_simp; try with_reducible rfl)
    (try simp only [Act.put, List.setIfInBounds_toArray, List.set_cons_zero, List.set_cons_succ])
    refine take1_st (i := 5) 25 _ rfl rfl rfl sc_Evs _ (by rfl) (by kernel_rfl) (by kernel_rfl) (by kernel_rfl) (fun _ _ _ _ h => h) (by rfl) HS ?_
    (try simp only [Act.put, List.setIfInBounds_toArray, List.set_cons_zero, List.set_cons_succ])
    refine takeMove (i := 6) rfl rfl _ (by rfl) (by kernel_rfl) (by kernel_rfl) (by kernel_rfl) (fun _ _ _ _ h => h) (by rfl) HS ?_
    (try simp only [Act.put, List.setIfInBounds_toArray, List.set_cons_zero, List.set_cons_succ])
    refine takeMove (i := 7) rfl rfl _ (by rfl) (by kernel_rfl) (by kernel_rfl) (by kernel_rfl) (fun _ _ _ _ h => h) (by rfl) HS ?_
    (try simp only [Act.put, List.setIfInBounds_toArray, List.set_cons_zero, List.set_cons_succ])
    refine takeSlice (i := 8) rfl rfl Try.underlying25 (s := 6) (by kernel_rfl) rfl (0) (k) (k) (.inr ⟨rfl, rfl⟩) (.inl ⟨_, rfl, by omega⟩) (.inl ⟨_, rfl, by omega⟩) (fun h => by cases h) (by omega) (by omega) (by omega) (k) (k) (by omega) (by omega) (by kernel_rfl) (by kernel_rfl) (by kernel_rfl) (fun _ _ _ _ h => h) (by rfl) HS ?_
    (try simp only [Act.put, List.setIfInBounds_toArray, List.set_cons_zero, List.set_cons_succ])
    refine branchH [0] (by kernel_rfl) (by kernel_rfl) (AllStep.cons ?_ AllStep.nil)
    refine stepH_do (i := 0) rfl (by rfl) ?_
    refine wp_loadRow_st H 27 _ rfl rfl row_Berth (by kernel_rfl) ?_
    replace HS := HS.of H
    refine ⟨HS, ?_⟩
    (try simp only [Act.put, List.setIfInBounds_toArray, List.set_cons_zero, List.set_cons_succ])
    refine branchH [9] (by kernel_rfl) (by kernel_rfl) (AllStep.cons ?_ AllStep.nil)
    refine stepH_do (i := 9) rfl (by rfl) ?_
    replace H := H.subEv (A := Ax) (es := es) 0 k k (by rw [HL.out]; omega) (by omega)
    rw [List.drop_zero] at H
    refine wp_call_st rfl Try.func31 (by kernel_rfl) (by kernel_rfl) _ ?_ ((C2.out _ _ H A1 c1 hc1 (subA Ax 0 k 6) k (Nat.le_refl _) inferInstance inferInstance).mono ?_)
    · rfl
    clear H
    rintro ed wy ⟨A2, c2, rfl, hc2, H⟩
    replace HS := HS.of H
    refine ⟨_, rfl, HS, ?_⟩
    (try simp only [Act.put, List.setIfInBounds_toArray, List.set_cons_zero, List.set_cons_succ])
    refine takeMove (i := 10) rfl rfl _ (by rfl) (by kernel_rfl) (by kernel_rfl) (by kernel_rfl) (fun _ _ _ _ h => h) (by rfl) HS ?_
    (try simp only [Act.put, List.setIfInBounds_toArray, List.set_cons_zero, List.set_cons_succ])
    refine takeExtract (i := 11) rfl rfl _ _ (by rfl) (by rfl) (by kernel_rfl) (by kernel_rfl) (by kernel_rfl) (fun _ _ _ _ h => h) (by rfl) HS ?_
    (try simp only [Act.put, List.setIfInBounds_toArray, List.set_cons_zero, List.set_cons_succ])
    refine takeExtract (i := 12) rfl rfl _ _ (by rfl) (by rfl) (by kernel_rfl) (by kernel_rfl) (by kernel_rfl) (fun _ _ _ _ h => h) (by rfl) HS ?_
    (try simp only [Act.put, List.setIfInBounds_toArray, List.set_cons_zero, List.set_cons_succ])
    refine branchH [13] (by kernel_rfl) (by kernel_rfl) (AllStep.cons ?_ AllStep.nil)
    refine stepH_do (i := 13) rfl (by rfl) ?_
    refine wp_store_st H 27 _ _ rfl rfl rfl (by kernel_rfl) (by rfl) (by kernel_rfl) ?_
    clear H
    intro wx H
    replace HS := HS.of H
    refine ⟨HS, ?_⟩
    (try simp only [Act.put])
    refine takeAssign (i := 14) rfl rfl _ (by rfl) (by kernel_rfl) (by kernel_rfl) (by kernel_rfl) (fun _ _ _ _ h => h) (by rfl) HS ?_
    (try simp only [Act.put, List.setIfInBounds_toArray, List.set_cons_zero, List.set_cons_succ])
    refine doneH (by kernel_rfl) ?_
    go_wp2_with fail
    go_meet
    exact ⟨A2, c2, rfl, rfl, rfl, rfl, rfl, rfl, hc2, H.subm _⟩
  case rest =>
    clear H
    obtain ⟨At, ct', rfl, rfl, rfl, rfl, rfl, rfl, hct, H⟩ := hcut
    go_upto_region 5 with fail
    (try simp only [Act.put])
    go_cut [7, 8, 9, 10, 11, 12, 13, 14] (fun s7 s8 s9 s10 s11 s12 s13 s14 wx => ∃ gu Au cu, s7 = .pointer (some ⟨grx, 0, none⟩) ∧ s8 = .bool true ∧ s9 = .int .i64 k ∧ s10 = .pointer (some ⟨gr3, 0, none⟩) ∧ s11 = .int .i64 0 ∧ s12 = .int .i64 0 ∧ s13 = .pointer (some ⟨gu, 0, none⟩) ∧ s14 = .int .i64 0 ∧ m + 1 ≤ cu ∧ St w wx [.bl gu 27 #[.int .i64 1, .int .i64 (q + 1), .int .i64 0, .int .i64 0, .int .i64 0, .slice Au ((m + 1)) cu], evIt Au (es ++ [(⟨4, 0, 0, 0, 0, 0⟩ : Ev)]), .bl gr3 27 #[.int .i64 4, .int .i64 (q + 1), .int .i64 0, .int .i64 0, .int .i64 0, .slice At k ct'], evIt At (es.take k), .bl grx 27 #[.int .i64 1, .int .i64 q, .int .i64 0, .int .i64 0, .int .i64 0, .slice Ax m cx], evIt Ax es])
    case first =>
      refine startS (H.subm (.bl gr3 27 #[.int .i64 4, .int .i64 (q + 1), .int .i64 0, .int .i64 0, .int .i64 0, .slice At k ct'] :: evIt At (es.take k) :: .bl grx 27 #[.int .i64 1, .int .i64 q, .int .i64 0, .int .i64 0, .int .i64 0, .slice Ax m cx] :: evIt Ax es :: [])) (by kernel_rfl) (fun HS => ?_)
      replace H := H.drew
      refine takeRow_st (i := 0) 27 _ rfl rfl rfl row_Berth (by kernel_rfl) (by kernel_rfl) (by kernel_rfl) (by kernel_rfl) (fun _ _ _ _ h => h) (by rfl) HS ?_
      (try simp only [Act.put, List.setIfInBounds_toArray, List.set_cons_zero, List.set_cons_succ])
      refine takeV (i := 1) (v := ?_) rfl (by kernel_rfl) (by kernel_rfl) (by kernel_rfl) (fun _ _ _ h => h) (by rfl) ?_ HS ?_
      rotate_left
      · (intro W hW; go_simp; try with_reducible rfl)
      (try simp only [Act.put, List.setIfInBounds_toArray, List.set_cons_zero, List.set_cons_succ])
      refine take1_st (i := 2) 3 _ rfl rfl rfl sc_int _ (by rfl) (by kernel_rfl) (by kernel_rfl) (by kernel_rfl) (fun _ _ _ _ h => h) (by rfl) HS ?_
      (try simp only [Act.put, List.setIfInBounds_toArray, List.set_cons_zero, List.set_cons_succ])
      refine takeV (i := 3) (v := ?_) rfl (by kernel_rfl) (by kernel_rfl) (by kernel_rfl) (fun _ _ _ h => h) (by rfl) ?_ HS ?_
      rotate_left
      · (intro W hW; go_simp; try with_reducible rfl)
      (try simp only [Act.put, List.setIfInBounds_toArray, List.set_cons_zero, List.set_cons_succ])
      refine takeMove (i := 4) rfl rfl _ (by rfl) (by kernel_rfl) (by kernel_rfl) (by kernel_rfl) (fun _ _ _ _ h => h) (by rfl) HS ?_
      (try simp only [Act.put, List.setIfInBounds_toArray, List.set_cons_zero, List.set_cons_succ])
      refine takeV (i := 5) (v := ?_) rfl (by kernel_rfl) (by kernel_rfl) (by kernel_rfl) (fun _ _ _ h => h) (by rfl) ?_ HS ?_
      rotate_left
      · (intro W hW; go_simp; try with_reducible rfl)
      (try simp only [Act.put, List.setIfInBounds_toArray, List.set_cons_zero, List.set_cons_succ])
      refine take1_st (i := 6) 25 _ rfl rfl rfl sc_Evs _ (by rfl) (by kernel_rfl) (by kernel_rfl) (by kernel_rfl) (fun _ _ _ _ h => h) (by rfl) HS ?_
      (try simp only [Act.put, List.setIfInBounds_toArray, List.set_cons_zero, List.set_cons_succ])
      refine takeMove (i := 7) rfl rfl _ (by rfl) (by kernel_rfl) (by kernel_rfl) (by kernel_rfl) (fun _ _ _ _ h => h) (by rfl) HS ?_
      (try simp only [Act.put, List.setIfInBounds_toArray, List.set_cons_zero, List.set_cons_succ])
      refine takeSlice (i := 8) rfl rfl Try.underlying25 (s := 6) (by kernel_rfl) rfl (k) (m) (cx) (.inl ⟨_, rfl, by omega⟩) (.inr ⟨rfl, rfl⟩) (.inr ⟨rfl, rfl⟩) (fun _ => rfl) (by omega) (by omega) (by omega) (m - k) (cx - k) (by omega) (by omega) (by kernel_rfl) (by kernel_rfl) (by kernel_rfl) (fun _ _ _ _ h => h) (by rfl) HS ?_
      (try simp only [Act.put, List.setIfInBounds_toArray, List.set_cons_zero, List.set_cons_succ])
      refine branchH [9, 13] (by kernel_rfl) (by kernel_rfl) (AllStep.cons ?_ (AllStep.cons ?_ AllStep.nil))
      · refine stepH_do (i := 9) rfl (by rfl) ?_
        replace H := H.subEv (A := Ax) (es := es) k (m - k) cx (by rw [HL.out]; omega) (by omega)
        rw [List.take_of_length_le (Nat.le_of_eq HLD.out)] at H
        refine wp_call_st rfl Try.func31 (by kernel_rfl) (by kernel_rfl) _ ?_ ((C3.out _ _ H At ct' hct (subA Ax k cx 6) (cx - k) (by omega) inferInstance inferInstance).mono ?_)
        · rfl
        clear H
        rintro ed wy ⟨A3, c3, rfl, hc3, H⟩
        replace HS := HS.of H
        refine ⟨_, rfl, HS, ?_⟩
        (try simp only [Act.put, List.setIfInBounds_toArray, List.set_cons_zero, List.set_cons_succ])
        refine takeMove (i := 10) rfl rfl _ (by rfl) (by kernel_rfl) (by kernel_rfl) (by kernel_rfl) (fun _ _ _ _ h => h) (by rfl) HS ?_
        (try simp only [Act.put, List.setIfInBounds_toArray, List.set_cons_zero, List.set_cons_succ])
        refine takeExtract (i := 11) rfl rfl _ _ (by rfl) (by rfl) (by kernel_rfl) (by kernel_rfl) (by kernel_rfl) (fun _ _ _ _ h => h) (by rfl) HS ?_
        (try simp only [Act.put, List.setIfInBounds_toArray, List.set_cons_zero, List.set_cons_succ])
        refine takeExtract (i := 12) rfl rfl _ _ (by rfl) (by rfl) (by kernel_rfl) (by kernel_rfl) (by kernel_rfl) (fun _ _ _ _ h => h) (by rfl) HS ?_
        (try simp only [Act.put, List.setIfInBounds_toArray, List.set_cons_zero, List.set_cons_succ])
        refine branchH [13] (by kernel_rfl) (by kernel_rfl) (AllStep.cons ?_ AllStep.nil)
        refine stepH_do (i := 13) rfl (by rfl) ?_
        refine wp_alloc_st H 27 rfl _ ber_zero ?_
        clear H
        intro gr5 wx H
        replace HS := HS.of H
        refine ⟨HS, ?_⟩
        (try simp only [Act.put, List.setIfInBounds_toArray, List.set_cons_zero, List.set_cons_succ])
        refine branchH [14] (by kernel_rfl) (by kernel_rfl) (AllStep.cons ?_ AllStep.nil)
        refine stepH_do (i := 14) rfl (by rfl) ?_
        refine wp_store_st H 27 _ _ rfl rfl rfl (by kernel_rfl) (by rfl) (by kernel_rfl) ?_
        clear H
        intro wx H
        replace HS := HS.of H
        refine ⟨HS, ?_⟩
        (try simp only [Act.put])
        refine takeAssign (i := 15) rfl rfl _ (by rfl) (by kernel_rfl) (by kernel_rfl) (by kernel_rfl) (fun _ _ _ _ h => h) (by rfl) HS ?_
        (try simp only [Act.put, List.setIfInBounds_toArray, List.set_cons_zero, List.set_cons_succ])
        refine doneH (by kernel_rfl) ?_
        go_wp2_with fail
        go_meet
        exact ⟨gr5, A3, c3, rfl, rfl, rfl, rfl, rfl, rfl, rfl, rfl, hc3, H.subm _⟩
      · refine stepH_do (i := 13) rfl (by rfl) ?_
        refine wp_alloc_st H 27 rfl _ ber_zero ?_
        clear H
        intro gr5 wx H
        replace HS := HS.of H
        refine ⟨HS, ?_⟩
        (try simp only [Act.put, List.setIfInBounds_toArray, List.set_cons_zero, List.set_cons_succ])
        refine branchH [9] (by kernel_rfl) (by kernel_rfl) (AllStep.cons ?_ AllStep.nil)
        refine stepH_do (i := 9) rfl (by rfl) ?_
        replace H := H.subEv (A := Ax) (es := es) k (m - k) cx (by rw [HL.out]; omega) (by omega)
        rw [List.take_of_length_le (Nat.le_of_eq HLD.out)] at H
        refine wp_call_st rfl Try.func31 (by kernel_rfl) (by kernel_rfl) _ ?_ ((C3.out _ _ H At ct' hct (subA Ax k cx 6) (cx - k) (by omega) inferInstance inferInstance).mono ?_)
        · rfl
        clear H
        rintro ed wy ⟨A3, c3, rfl, hc3, H⟩
        replace HS := HS.of H
        refine ⟨_, rfl, HS, ?_⟩
        (try simp only [Act.put, List.setIfInBounds_toArray, List.set_cons_zero, List.set_cons_succ])
        refine takeMove (i := 10) rfl rfl _ (by rfl) (by kernel_rfl) (by kernel_rfl) (by kernel_rfl) (fun _ _ _ _ h => h) (by rfl) HS ?_
        (try simp only [Act.put, List.setIfInBounds_toArray, List.set_cons_zero, List.set_cons_succ])
        refine takeExtract (i := 11) rfl rfl _ _ (by rfl) (by rfl) (by kernel_rfl) (by kernel_rfl) (by kernel_rfl) (fun _ _ _ _ h => h) (by rfl) HS ?_
        (try simp only [Act.put, List.setIfInBounds_toArray, List.set_cons_zero, List.set_cons_succ])
        refine takeExtract (i := 12) rfl rfl _ _ (by rfl) (by rfl) (by kernel_rfl) (by kernel_rfl) (by kernel_rfl) (fun _ _ _ _ h => h) (by rfl) HS ?_
        (try simp only [Act.put, List.setIfInBounds_toArray, List.set_cons_zero, List.set_cons_succ])
        refine branchH [14] (by kernel_rfl) (by kernel_rfl) (AllStep.cons ?_ AllStep.nil)
        refine stepH_do (i := 14) rfl (by rfl) ?_
        refine wp_store_st H 27 _ _ rfl rfl rfl (by kernel_rfl) (by rfl) (by kernel_rfl) ?_
        clear H
        intro wx H
        replace HS := HS.of H
        refine ⟨HS, ?_⟩
        (try simp only [Act.put])
        refine takeAssign (i := 15) rfl rfl _ (by rfl) (by kernel_rfl) (by kernel_rfl) (by kernel_rfl) (fun _ _ _ _ h => h) (by rfl) HS ?_
        (try simp only [Act.put, List.setIfInBounds_toArray, List.set_cons_zero, List.set_cons_succ])
        refine doneH (by kernel_rfl) ?_
        go_wp2_with fail
        go_meet
        exact ⟨gr5, A3, c3, rfl, rfl, rfl, rfl, rfl, rfl, rfl, rfl, hc3, H.subm _⟩
    case rest =>
      clear H
      obtain ⟨gu, Au, cu, rfl, rfl, rfl, rfl, rfl, rfl, rfl, rfl, hcu, H⟩ := hcut
      go_upto_region 6 with fail
      (try simp only [Act.put])
      go_cut [7, 8, 9, 10, 11, 12, 13, 14, 16] (fun s7 s8 s9 s10 s11 s12 s13 s14 s16 wx => s7 = .pointer (some ⟨grx, 0, none⟩) ∧ s8 = .bool true ∧ s9 = .int .i64 k ∧ s10 = .pointer (some ⟨gr3, 0, none⟩) ∧ s11 = .int .i64 0 ∧ s12 = .int .i64 0 ∧ s13 = .pointer (some ⟨gu, 0, none⟩) ∧ s14 = .int .i64 0 ∧ s16 = .int .i64 7 ∧ St w wx [.bl gu 27 #[.int .i64 1, .int .i64 (q + 1), .int .i64 0, .int .i64 0, .int .i64 0, .slice Au ((m + 1)) cu], evIt Au (es ++ [(⟨4, 0, 0, 0, 0, 0⟩ : Ev)]), .bl gr3 27 #[.int .i64 4, .int .i64 (q + 1), .int .i64 0, .int .i64 0, .int .i64 0, .slice At k ct'], evIt At (es.take k), .bl grx 27 #[.int .i64 1, .int .i64 q, .int .i64 0, .int .i64 0, .int .i64 0, .slice Ax m cx], evIt Ax es])
      case first =>
        refine startS (H.subm (.bl gu 27 #[.int .i64 1, .int .i64 (q + 1), .int .i64 0, .int .i64 0, .int .i64 0, .slice Au ((m + 1)) cu] :: evIt Au (es ++ [(⟨4, 0, 0, 0, 0, 0⟩ : Ev)]) :: .bl gr3 27 #[.int .i64 4, .int .i64 (q + 1), .int .i64 0, .int .i64 0, .int .i64 0, .slice At k ct'] :: evIt At (es.take k) :: .bl grx 27 #[.int .i64 1, .int .i64 q, .int .i64 0, .int .i64 0, .int .i64 0, .slice Ax m cx] :: evIt Ax es :: [])) (by kernel_rfl) (fun HS => ?_)
        replace H := H.drew
        refine takeRow_st (i := 0) 27 _ rfl rfl rfl row_Berth (by kernel_rfl) (by kernel_rfl) (by kernel_rfl) (by kernel_rfl) (fun _ _ _ _ h => h) (by rfl) HS ?_
        (try simp only [Act.put, List.setIfInBounds_toArray, List.set_cons_zero, List.set_cons_succ])
        refine takeV (i := 1) (v := ?_) rfl (by kernel_rfl) (by kernel_rfl) (by kernel_rfl) (fun _ _ _ h => h) (by rfl) ?_ HS ?_
        rotate_left
        · (intro W hW; go_simp; try with_reducible rfl)
        (try simp only [Act.put, List.setIfInBounds_toArray, List.set_cons_zero, List.set_cons_succ])
        refine take1_st (i := 2) 3 _ rfl rfl rfl sc_int _ (by rfl) (by kernel_rfl) (by kernel_rfl) (by kernel_rfl) (fun _ _ _ _ h => h) (by rfl) HS ?_
        (try simp only [Act.put, List.setIfInBounds_toArray, List.set_cons_zero, List.set_cons_succ])
        refine takeV (i := 3) (v := ?_) rfl (by kernel_rfl) (by kernel_rfl) (by kernel_rfl) (fun _ _ _ h => h) (by rfl) ?_ HS ?_
        rotate_left
        · (intro W hW; go_simp; try with_reducible rfl)
        (try simp only [Act.put, List.setIfInBounds_toArray, List.set_cons_zero, List.set_cons_succ])
        refine takeMove (i := 4) rfl rfl _ (by rfl) (by kernel_rfl) (by kernel_rfl) (by kernel_rfl) (fun _ _ _ _ h => h) (by rfl) HS ?_
        (try simp only [Act.put, List.setIfInBounds_toArray, List.set_cons_zero, List.set_cons_succ])
        refine takeV (i := 5) (v := ?_) rfl (by kernel_rfl) (by kernel_rfl) (by kernel_rfl) (fun _ _ _ h => h) (by rfl) ?_ HS ?_
        rotate_left
        · (intro W hW; go_simp; try with_reducible rfl)
        (try simp only [Act.put, List.setIfInBounds_toArray, List.set_cons_zero, List.set_cons_succ])
        refine take1_st (i := 6) 25 _ rfl rfl rfl sc_Evs _ (by rfl) (by kernel_rfl) (by kernel_rfl) (by kernel_rfl) (fun _ _ _ _ h => h) (by rfl) HS ?_
        (try simp only [Act.put, List.setIfInBounds_toArray, List.set_cons_zero, List.set_cons_succ])
        refine takeMove (i := 7) rfl rfl _ (by rfl) (by kernel_rfl) (by kernel_rfl) (by kernel_rfl) (fun _ _ _ _ h => h) (by rfl) HS ?_
        (try simp only [Act.put, List.setIfInBounds_toArray, List.set_cons_zero, List.set_cons_succ])
        refine takeSlice (i := 8) rfl rfl Try.underlying25 (s := 6) (by kernel_rfl) rfl (k) (m) (cx) (.inl ⟨_, rfl, by omega⟩) (.inr ⟨rfl, rfl⟩) (.inr ⟨rfl, rfl⟩) (fun _ => rfl) (by omega) (by omega) (by omega) (m - k) (cx - k) (by omega) (by omega) (by kernel_rfl) (by kernel_rfl) (by kernel_rfl) (fun _ _ _ _ h => h) (by rfl) HS ?_
        (try simp only [Act.put, List.setIfInBounds_toArray, List.set_cons_zero, List.set_cons_succ])
        refine branchH [9, 13] (by kernel_rfl) (by kernel_rfl) (AllStep.cons ?_ (AllStep.cons ?_ AllStep.nil))
        · refine stepH_do (i := 9) rfl (by rfl) ?_
          replace H := H.subEv (A := Ax) (es := es) k (m - k) cx (by rw [HL.out]; omega) (by omega)
          rw [List.take_of_length_le (Nat.le_of_eq HLD.out)] at H
          refine wp_call_st rfl Try.func31 (by kernel_rfl) (by kernel_rfl) _ ?_ ((C4.out _ _ H Au cu hcu (subA Ax k cx 6) (cx - k) (by omega) inferInstance inferInstance).mono ?_)
          · rfl
          clear H
          rintro ed wy ⟨A4, c4, rfl, hc4, H⟩
          replace HS := HS.of H
          refine ⟨_, rfl, HS, ?_⟩
          (try simp only [Act.put, List.setIfInBounds_toArray, List.set_cons_zero, List.set_cons_succ])
          refine takeMove (i := 10) rfl rfl _ (by rfl) (by kernel_rfl) (by kernel_rfl) (by kernel_rfl) (fun _ _ _ _ h => h) (by rfl) HS ?_
          (try simp only [Act.put, List.setIfInBounds_toArray, List.set_cons_zero, List.set_cons_succ])
          refine takeExtract (i := 11) rfl rfl _ _ (by rfl) (by rfl) (by kernel_rfl) (by kernel_rfl) (by kernel_rfl) (fun _ _ _ _ h => h) (by rfl) HS ?_
          (try simp only [Act.put, List.setIfInBounds_toArray, List.set_cons_zero, List.set_cons_succ])
          refine takeExtract (i := 12) rfl rfl _ _ (by rfl) (by rfl) (by kernel_rfl) (by kernel_rfl) (by kernel_rfl) (fun _ _ _ _ h => h) (by rfl) HS ?_
          (try simp only [Act.put, List.setIfInBounds_toArray, List.set_cons_zero, List.set_cons_succ])
          refine branchH [13] (by kernel_rfl) (by kernel_rfl) (AllStep.cons ?_ AllStep.nil)
          refine stepH_do (i := 13) rfl (by rfl) ?_
          refine wp_alloc_st H 27 rfl _ ber_zero ?_
          clear H
          intro gr6 wx H
          replace HS := HS.of H
          refine ⟨HS, ?_⟩
          (try simp only [Act.put, List.setIfInBounds_toArray, List.set_cons_zero, List.set_cons_succ])
          refine branchH [14] (by kernel_rfl) (by kernel_rfl) (AllStep.cons ?_ AllStep.nil)
          refine stepH_do (i := 14) rfl (by rfl) ?_
          refine wp_store_st H 27 _ _ rfl rfl rfl (by kernel_rfl) (by rfl) (by kernel_rfl) ?_
          clear H
          intro wx H
          replace HS := HS.of H
          refine ⟨HS, ?_⟩
          (try simp only [Act.put])
          refine takeAssign (i := 15) rfl rfl _ (by rfl) (by kernel_rfl) (by kernel_rfl) (by kernel_rfl) (fun _ _ _ _ h => h) (by rfl) HS ?_
          (try simp only [Act.put, List.setIfInBounds_toArray, List.set_cons_zero, List.set_cons_succ])
          refine doneH (by kernel_rfl) ?_
          go_wp2_with fail
          go_meet
          exact ⟨rfl, rfl, rfl, rfl, rfl, rfl, rfl, rfl, rfl, H.subm _⟩
        · refine stepH_do (i := 13) rfl (by rfl) ?_
          refine wp_alloc_st H 27 rfl _ ber_zero ?_
          clear H
          intro gr6 wx H
          replace HS := HS.of H
          refine ⟨HS, ?_⟩
          (try simp only [Act.put, List.setIfInBounds_toArray, List.set_cons_zero, List.set_cons_succ])
          refine branchH [9] (by kernel_rfl) (by kernel_rfl) (AllStep.cons ?_ AllStep.nil)
          refine stepH_do (i := 9) rfl (by rfl) ?_
          replace H := H.subEv (A := Ax) (es := es) k (m - k) cx (by rw [HL.out]; omega) (by omega)
          rw [List.take_of_length_le (Nat.le_of_eq HLD.out)] at H
          refine wp_call_st rfl Try.func31 (by kernel_rfl) (by kernel_rfl) _ ?_ ((C4.out _ _ H Au cu hcu (subA Ax k cx 6) (cx - k) (by omega) inferInstance inferInstance).mono ?_)
          · rfl
          clear H
          rintro ed wy ⟨A4, c4, rfl, hc4, H⟩
          replace HS := HS.of H
          refine ⟨_, rfl, HS, ?_⟩
          (try simp only [Act.put, List.setIfInBounds_toArray, List.set_cons_zero, List.set_cons_succ])
          refine takeMove (i := 10) rfl rfl _ (by rfl) (by kernel_rfl) (by kernel_rfl) (by kernel_rfl) (fun _ _ _ _ h => h) (by rfl) HS ?_
          (try simp only [Act.put, List.setIfInBounds_toArray, List.set_cons_zero, List.set_cons_succ])
          refine takeExtract (i := 11) rfl rfl _ _ (by rfl) (by rfl) (by kernel_rfl) (by kernel_rfl) (by kernel_rfl) (fun _ _ _ _ h => h) (by rfl) HS ?_
          (try simp only [Act.put, List.setIfInBounds_toArray, List.set_cons_zero, List.set_cons_succ])
          refine takeExtract (i := 12) rfl rfl _ _ (by rfl) (by rfl) (by kernel_rfl) (by kernel_rfl) (by kernel_rfl) (fun _ _ _ _ h => h) (by rfl) HS ?_
          (try simp only [Act.put, List.setIfInBounds_toArray, List.set_cons_zero, List.set_cons_succ])
          refine branchH [14] (by kernel_rfl) (by kernel_rfl) (AllStep.cons ?_ AllStep.nil)
          refine stepH_do (i := 14) rfl (by rfl) ?_
          refine wp_store_st H 27 _ _ rfl rfl rfl (by kernel_rfl) (by rfl) (by kernel_rfl) ?_
          clear H
          intro wx H
          replace HS := HS.of H
          refine ⟨HS, ?_⟩
          (try simp only [Act.put])
          refine takeAssign (i := 15) rfl rfl _ (by rfl) (by kernel_rfl) (by kernel_rfl) (by kernel_rfl) (fun _ _ _ _ h => h) (by rfl) HS ?_
          (try simp only [Act.put, List.setIfInBounds_toArray, List.set_cons_zero, List.set_cons_succ])
          refine doneH (by kernel_rfl) ?_
          go_wp2_with fail
          go_meet
          exact ⟨rfl, rfl, rfl, rfl, rfl, rfl, rfl, rfl, rfl, H.subm _⟩
      case rest =>
        clear H
        obtain ⟨rfl, rfl, rfl, rfl, rfl, rfl, rfl, rfl, rfl, H⟩ := hcut
        go_upto_region 7 with fail
        (try simp only [Act.put])
        go_cut [7, 8, 9, 10, 11, 12, 13, 14, 16, 18] (fun s7 s8 s9 s10 s11 s12 s13 s14 s16 s18 wx => s7 = .pointer (some ⟨grx, 0, none⟩) ∧ s8 = .bool true ∧ s9 = .int .i64 k ∧ s10 = .pointer (some ⟨gr3, 0, none⟩) ∧ s11 = .int .i64 0 ∧ s12 = .int .i64 0 ∧ s13 = .pointer (some ⟨gu, 0, none⟩) ∧ s14 = .int .i64 0 ∧ s16 = .int .i64 7 ∧ s18 = .int .i64 15 ∧ St w wx [.bl gu 27 #[.int .i64 1, .int .i64 (q + 1), .int .i64 0, .int .i64 0, .int .i64 0, .slice Au ((m + 1)) cu], evIt Au (es ++ [(⟨4, 0, 0, 0, 0, 0⟩ : Ev)]), .bl gr3 27 #[.int .i64 4, .int .i64 (q + 1), .int .i64 0, .int .i64 0, .int .i64 0, .slice At k ct'], evIt At (es.take k), .bl grx 27 #[.int .i64 1, .int .i64 q, .int .i64 0, .int .i64 0, .int .i64 0, .slice Ax m cx], evIt Ax es])
        case first =>
          refine startS (H.subm (.bl gu 27 #[.int .i64 1, .int .i64 (q + 1), .int .i64 0, .int .i64 0, .int .i64 0, .slice Au ((m + 1)) cu] :: evIt Au (es ++ [(⟨4, 0, 0, 0, 0, 0⟩ : Ev)]) :: .bl gr3 27 #[.int .i64 4, .int .i64 (q + 1), .int .i64 0, .int .i64 0, .int .i64 0, .slice At k ct'] :: evIt At (es.take k) :: .bl grx 27 #[.int .i64 1, .int .i64 q, .int .i64 0, .int .i64 0, .int .i64 0, .slice Ax m cx] :: evIt Ax es :: [])) (by kernel_rfl) (fun HS => ?_)
          replace H := H.drew
          refine takeRow_st (i := 0) 27 _ rfl rfl rfl row_Berth (by kernel_rfl) (by kernel_rfl) (by kernel_rfl) (by kernel_rfl) (fun _ _ _ _ h => h) (by rfl) HS ?_
          (try simp only [Act.put, List.setIfInBounds_toArray, List.set_cons_zero, List.set_cons_succ])
          refine takeV (i := 1) (v := ?_) rfl (by kernel_rfl) (by kernel_rfl) (by kernel_rfl) (fun _ _ _ h => h) (by rfl) ?_ HS ?_
          rotate_left
          · (intro W hW; go_simp; try with_reducible rfl)
          (try simp only [Act.put, List.setIfInBounds_toArray, List.set_cons_zero, List.set_cons_succ])
          refine take1_st (i := 2) 3 _ rfl rfl rfl sc_int _ (by rfl) (by kernel_rfl) (by kernel_rfl) (by kernel_rfl) (fun _ _ _ _ h => h) (by rfl) HS ?_
          (try simp only [Act.put, List.setIfInBounds_toArray, List.set_cons_zero, List.set_cons_succ])
          refine takeMove (i := 3) rfl rfl _ (by rfl) (by kernel_rfl) (by kernel_rfl) (by kernel_rfl) (fun _ _ _ _ h => h) (by rfl) HS ?_
          (try simp only [Act.put, List.setIfInBounds_toArray, List.set_cons_zero, List.set_cons_succ])
          refine takeV (i := 4) (v := ?_) rfl (by kernel_rfl) (by kernel_rfl) (by kernel_rfl) (fun _ _ _ h => h) (by rfl) ?_ HS ?_
          rotate_left
          · (intro W hW; go_simp; try with_reducible rfl)
          (try simp only [Act.put, List.setIfInBounds_toArray, List.set_cons_zero, List.set_cons_succ])
          refine take1_st (i := 5) 25 _ rfl rfl rfl sc_Evs _ (by rfl) (by kernel_rfl) (by kernel_rfl) (by kernel_rfl) (fun _ _ _ _ h => h) (by rfl) HS ?_
          (try simp only [Act.put, List.setIfInBounds_toArray, List.set_cons_zero, List.set_cons_succ])
          refine takeMove (i := 6) rfl rfl _ (by rfl) (by kernel_rfl) (by kernel_rfl) (by kernel_rfl) (fun _ _ _ _ h => h) (by rfl) HS ?_
          (try simp only [Act.put, List.setIfInBounds_toArray, List.set_cons_zero, List.set_cons_succ])
          refine takeSlice (i := 7) rfl rfl Try.underlying25 (s := 6) (by kernel_rfl) rfl (k) (m) (cx) (.inl ⟨_, rfl, by omega⟩) (.inr ⟨rfl, rfl⟩) (.inr ⟨rfl, rfl⟩) (fun _ => rfl) (by omega) (by omega) (by omega) (m - k) (cx - k) (by omega) (by omega) (by kernel_rfl) (by kernel_rfl) (by kernel_rfl) (fun _ _ _ _ h => h) (by rfl) HS ?_
          (try simp only [Act.put, List.setIfInBounds_toArray, List.set_cons_zero, List.set_cons_succ])
          refine branchH [8, 12] (by kernel_rfl) (by kernel_rfl) (AllStep.cons ?_ (AllStep.cons ?_ AllStep.nil))
          · refine stepH_do (i := 8) rfl (by rfl) ?_
            replace H := H.subEv (A := Ax) (es := es) k (m - k) cx (by rw [HL.out]; omega) (by omega)
            rw [List.take_of_length_le (Nat.le_of_eq HLD.out)] at H
            refine wp_call_st rfl Try.func31 (by kernel_rfl) (by kernel_rfl) _ ?_ ((C5.out _ _ H At ct' hct (subA Ax k cx 6) (cx - k) (by omega) inferInstance inferInstance).mono ?_)
            · rfl
            clear H
            rintro ed wy ⟨A5, c5, rfl, hc5, H⟩
            replace HS := HS.of H
            refine ⟨_, rfl, HS, ?_⟩
            (try simp only [Act.put, List.setIfInBounds_toArray, List.set_cons_zero, List.set_cons_succ])
            refine takeMove (i := 9) rfl rfl _ (by rfl) (by kernel_rfl) (by kernel_rfl) (by kernel_rfl) (fun _ _ _ _ h => h) (by rfl) HS ?_
            (try simp only [Act.put, List.setIfInBounds_toArray, List.set_cons_zero, List.set_cons_succ])
            refine takeExtract (i := 10) rfl rfl _ _ (by rfl) (by rfl) (by kernel_rfl) (by kernel_rfl) (by kernel_rfl) (fun _ _ _ _ h => h) (by rfl) HS ?_
            (try simp only [Act.put, List.setIfInBounds_toArray, List.set_cons_zero, List.set_cons_succ])
            refine takeExtract (i := 11) rfl rfl _ _ (by rfl) (by rfl) (by kernel_rfl) (by kernel_rfl) (by kernel_rfl) (fun _ _ _ _ h => h) (by rfl) HS ?_
            (try simp only [Act.put, List.setIfInBounds_toArray, List.set_cons_zero, List.set_cons_succ])
            refine branchH [12] (by kernel_rfl) (by kernel_rfl) (AllStep.cons ?_ AllStep.nil)
            refine stepH_do (i := 12) rfl (by rfl) ?_
            refine wp_alloc_st H 27 rfl _ ber_zero ?_
            clear H
            intro gr7 wx H
            replace HS := HS.of H
            refine ⟨HS, ?_⟩
            (try simp only [Act.put, List.setIfInBounds_toArray, List.set_cons_zero, List.set_cons_succ])
            refine branchH [13] (by kernel_rfl) (by kernel_rfl) (AllStep.cons ?_ AllStep.nil)
            refine stepH_do (i := 13) rfl (by rfl) ?_
            refine wp_store_st H 27 _ _ rfl rfl rfl (by kernel_rfl) (by rfl) (by kernel_rfl) ?_
            clear H
            intro wx H
            replace HS := HS.of H
            refine ⟨HS, ?_⟩
            (try simp only [Act.put])
            refine takeAssign (i := 14) rfl rfl _ (by rfl) (by kernel_rfl) (by kernel_rfl) (by kernel_rfl) (fun _ _ _ _ h => h) (by rfl) HS ?_
            (try simp only [Act.put, List.setIfInBounds_toArray, List.set_cons_zero, List.set_cons_succ])
            refine doneH (by kernel_rfl) ?_
            go_wp2_with fail
            go_meet
            exact ⟨rfl, rfl, rfl, rfl, rfl, rfl, rfl, rfl, rfl, rfl, H.subm _⟩
          · refine stepH_do (i := 12) rfl (by rfl) ?_
            refine wp_alloc_st H 27 rfl _ ber_zero ?_
            clear H
            intro gr7 wx H
            replace HS := HS.of H
            refine ⟨HS, ?_⟩
            (try simp only [Act.put, List.setIfInBounds_toArray, List.set_cons_zero, List.set_cons_succ])
            refine branchH [8] (by kernel_rfl) (by kernel_rfl) (AllStep.cons ?_ AllStep.nil)
            refine stepH_do (i := 8) rfl (by rfl) ?_
            replace H := H.subEv (A := Ax) (es := es) k (m - k) cx (by rw [HL.out]; omega) (by omega)
            rw [List.take_of_length_le (Nat.le_of_eq HLD.out)] at H
            refine wp_call_st rfl Try.func31 (by kernel_rfl) (by kernel_rfl) _ ?_ ((C5.out _ _ H At ct' hct (subA Ax k cx 6) (cx - k) (by omega) inferInstance inferInstance).mono ?_)
            · rfl
            clear H
            rintro ed wy ⟨A5, c5, rfl, hc5, H⟩
            replace HS := HS.of H
            refine ⟨_, rfl, HS, ?_⟩
            (try simp only [Act.put, List.setIfInBounds_toArray, List.set_cons_zero, List.set_cons_succ])
            refine takeMove (i := 9) rfl rfl _ (by rfl) (by kernel_rfl) (by kernel_rfl) (by kernel_rfl) (fun _ _ _ _ h => h) (by rfl) HS ?_
            (try simp only [Act.put, List.setIfInBounds_toArray, List.set_cons_zero, List.set_cons_succ])
            refine takeExtract (i := 10) rfl rfl _ _ (by rfl) (by rfl) (by kernel_rfl) (by kernel_rfl) (by kernel_rfl) (fun _ _ _ _ h => h) (by rfl) HS ?_
            (try simp only [Act.put, List.setIfInBounds_toArray, List.set_cons_zero, List.set_cons_succ])
            refine takeExtract (i := 11) rfl rfl _ _ (by rfl) (by rfl) (by kernel_rfl) (by kernel_rfl) (by kernel_rfl) (fun _ _ _ _ h => h) (by rfl) HS ?_
            (try simp only [Act.put, List.setIfInBounds_toArray, List.set_cons_zero, List.set_cons_succ])
            refine branchH [13] (by kernel_rfl) (by kernel_rfl) (AllStep.cons ?_ AllStep.nil)
            refine stepH_do (i := 13) rfl (by rfl) ?_
            refine wp_store_st H 27 _ _ rfl rfl rfl (by kernel_rfl) (by rfl) (by kernel_rfl) ?_
            clear H
            intro wx H
            replace HS := HS.of H
            refine ⟨HS, ?_⟩
            (try simp only [Act.put])
            refine takeAssign (i := 14) rfl rfl _ (by rfl) (by kernel_rfl) (by kernel_rfl) (by kernel_rfl) (fun _ _ _ _ h => h) (by rfl) HS ?_
            (try simp only [Act.put, List.setIfInBounds_toArray, List.set_cons_zero, List.set_cons_succ])
            refine doneH (by kernel_rfl) ?_
            go_wp2_with fail
            go_meet
            exact ⟨rfl, rfl, rfl, rfl, rfl, rfl, rfl, rfl, rfl, rfl, H.subm _⟩
        case rest =>
          clear H
          obtain ⟨rfl, rfl, rfl, rfl, rfl, rfl, rfl, rfl, rfl, rfl, H⟩ := hcut
          have i1 : IntKind.i64.wrap ((m : Int) + 1) = (m : Int) + 1 := IntWalk.i64_in _ (by omega)
          have i2 : ((m + 1 : Nat) : Int) = (m : Int) + 1 := by omega
          have QA := Lib.hid (fun W (H : St w W [.bl gu 27 #[.int .i64 1, .int .i64 (q + 1), .int .i64 0, .int .i64 0, .int .i64 0, .slice Au ((m + 1)) cu], evIt Au (es ++ [(⟨4, 0, 0, 0, 0, 0⟩ : Ev)]), .bl gr3 27 #[.int .i64 4, .int .i64 (q + 1), .int .i64 0, .int .i64 0, .int .i64 0, .slice At k ct'], evIt At (es.take k), .bl grx 27 #[.int .i64 1, .int .i64 q, .int .i64 0, .int .i64 0, .int .i64 0, .slice Ax m cx], evIt Ax es]) => qevAt (H.get (evIt Au (es ++ [(⟨4, 0, 0, 0, 0, 0⟩ : Ev)]))) rfl (show m < (es ++ [(⟨4, 0, 0, 0, 0, 0⟩ : Ev)]).length by rw [HL1.out]; omega))
          have HG := Lib.hid (show (es ++ [(⟨4, 0, 0, 0, 0, 0⟩ : Ev)]).getD m .zero0 = ⟨4, 0, 0, 0, 0, 0⟩ from by simp [List.getD, HL.out])
          have m1 : (0 : Int) ≤ (m : Int) := by omega
          have m2 : (m : Int) < (m : Int) + 1 := by omega
          have m3 : (m : Int) + 1 ≤ (cu : Int) := by omega
          by_cases hk0 : k = 0
          · have g1 : ¬ (0 : Int) < (k : Int) := by omega
            have g2 := decide_eq_false g1
            go_upto_region 12 with fail
            replace H : St w wc [.bl gu 27 #[.int .i64 1, .int .i64 (q + 1), .int .i64 0, .int .i64 0, .int .i64 0, .slice Au ((m + 1)) cu], evIt Au (es ++ [(⟨4, 0, 0, 0, 0, 0⟩ : Ev)]), .bl gr3 27 #[.int .i64 4, .int .i64 (q + 1), .int .i64 0, .int .i64 0, .int .i64 0, .slice At k ct'], evIt At (es.take k), .bl grx 27 #[.int .i64 1, .int .i64 q, .int .i64 0, .int .i64 0, .int .i64 0, .slice Ax m cx], evIt Ax es] := H.subm _
            obtain ⟨b8, off, hA8, hb8, q0, _⟩ := QA.out _ H
            rw [HG.out] at q0
            dsimp only at q0
            subst hA8
            go_wp2_with (first | ((with_reducible refine here_load ?_); first | refine wpList_loadPart_stG H (by rfl) 27 _ rfl rfl row_Berth (by kernel_rfl) (by rfl) _ (arr6_all _ _ _ _ _ _) ?_ | refine wpList_loadPart_stG H (by rfl) 50 _ rfl rfl row_Answer (by kernel_rfl) (by rfl) _ (arr4_all _ _ _ _) ?_ | refine wpList_loadPart_stG H (by rfl) 46 _ rfl rfl row_Queue (by kernel_rfl) (by rfl) _ (qArr_all _ _ _ _ _) ?_) | (first
                | ((with_reducible refine here_load ?_); first | (refine wpList_load_st H rfl 46 _ rfl rfl row_Queue (by kernel_rfl) ?_) | (refine wpList_load_st H rfl 50 _ rfl rfl row_Answer (by kernel_rfl) ?_) | (refine wpList_load_st H rfl 37 _ rfl rfl row_Event (by kernel_rfl) ?_) | (refine wpList_load_st H rfl 27 _ rfl rfl row_Berth (by kernel_rfl) ?_) | (refine wpList_load1_st H rfl 3 _ rfl rfl sc_int (by rfl) ?_) | (refine wpList_load1_stG H (by rfl) 3 _ rfl rfl sc_int (by rfl) ?_) | (refine wpList_load1_st H rfl 4 _ rfl rfl sc_bool (by rfl) ?_) | (refine wpList_load1_stG H (by rfl) 4 _ rfl rfl sc_bool (by rfl) ?_) | (refine wpList_load1_st H rfl 30 _ rfl rfl sc_Errno (by rfl) ?_) | (refine wpList_load1_stG H (by rfl) 30 _ rfl rfl sc_Errno (by rfl) ?_) | (refine wpList_load1_st H rfl 25 _ rfl rfl sc_Evs (by rfl) ?_) | (refine wpList_load1_stG H (by rfl) 25 _ rfl rfl sc_Evs (by rfl) ?_))
                | ((with_reducible refine here_store ?_); first | (refine wpList_store_st H rfl 46 _ _ rfl rfl rfl (by kernel_rfl) (by rfl) (by kernel_rfl) ?_; clear H; intro wx H) | (refine wpList_store_st H rfl 50 _ _ rfl rfl rfl (by kernel_rfl) (by rfl) (by kernel_rfl) ?_; clear H; intro wx H) | (refine wpList_store_st H rfl 37 _ _ rfl rfl rfl (by kernel_rfl) (by rfl) (by kernel_rfl) ?_; clear H; intro wx H) | (refine wpList_store_st H rfl 27 _ _ rfl rfl rfl (by kernel_rfl) (by rfl) (by kernel_rfl) ?_; clear H; intro wx H) | (refine wpList_store1_st H rfl 3 _ _ rfl rfl _ rfl (by rfl) s1_int (by rfl) (by rfl) ?_; clear H; intro wx H) | (refine wpList_store1_st H rfl 4 _ _ rfl rfl _ rfl (by rfl) s1_bool (by rfl) (by rfl) ?_; clear H; intro wx H) | (refine wpList_store1_st H rfl 30 _ _ rfl rfl _ rfl (by rfl) s1_Errno (by rfl) (by rfl) ?_; clear H; intro wx H) | (refine wpList_store1_st H rfl 25 _ _ rfl rfl _ rfl (by rfl) s1_Evs (by rfl) (by rfl) ?_; clear H; intro wx H))
                | ((with_reducible refine here_alloc ?_); first | (refine wpList_alloc_st H rfl 46 rfl _ q_zero ?_; clear H; intro gq12 wx H) | (refine wpList_alloc_st H rfl 50 rfl _ ans_zero ?_; clear H; intro ga12 wx H) | (refine wpList_alloc_st H rfl 37 rfl _ ev_zero ?_; clear H; intro ge12 wx H) | (refine wpList_alloc_st H rfl 27 rfl _ ber_zero ?_; clear H; intro gr12 wx H))
                | ((with_reducible refine here_box ?_); first | (refine wpList_box_st H rfl _ _ rfl _ rfl ?_; clear H; intro gb12 wx H))))
            go_ret
            exact ⟨rfl, H.bel⟩
          · have C6 := Lib.hid (fun W J (H : St w W J) A c (hc : k ≤ c) B d (hd : 0 ≤ d) (hI : Has J (evIt A (es.take k))) (hI2 : Has J (evIt B [])) => (show Calls Try.prog 31 #[.agg #[.int .i64 4, .int .i64 (q + 1), .int .i64 0, .int .i64 0, .int .i64 0, .slice A k c], .int .i64 (q + 1), .int .i64 0, .slice B 0 d, .bool true] W (fun ed w' => ∃ A' c', ed = .returned (.tuple #[.agg #[.int .i64 0, .int .i64 0, .int .i64 0, .int .i64 0, .int .i64 0, .slice A' 0 c'], .int .i64 3]) ∧ 0 ≤ c' ∧ St w w' (evIt A' [] :: J)) from by
              have h := import_few (h := hI) (h2 := hI2) (w0 := w) (w := W) (I := J) (q + 1) 0 0 0 (es.take k) [] A B k c 0 d 30 0 0 HLT.out HL0.out HT.out (by omega) (by omega) hc hd (by omega) (by omega) (by simp) (by omega) H
              exact bpost_to HL0.out h))
            have g1 : (0 : Int) < (k : Int) := by omega
            have g2 := decide_eq_true g1
            go_upto_region 10 with (first | (go_at_call 31; replace H := H.noEv; with_reducible refine (C6.out _ _ H At ct' hct none 0 (Nat.le_refl _) inferInstance inferInstance).mono ?_; clear H; rintro ed wy ⟨A6, c6, rfl, hc6, H⟩) | (first
                | ((with_reducible refine here_load ?_); first | (refine wpList_load_st H rfl 46 _ rfl rfl row_Queue (by kernel_rfl) ?_) | (refine wpList_load_st H rfl 50 _ rfl rfl row_Answer (by kernel_rfl) ?_) | (refine wpList_load_st H rfl 37 _ rfl rfl row_Event (by kernel_rfl) ?_) | (refine wpList_load_st H rfl 27 _ rfl rfl row_Berth (by kernel_rfl) ?_) | (refine wpList_load1_st H rfl 3 _ rfl rfl sc_int (by rfl) ?_) | (refine wpList_load1_stG H (by rfl) 3 _ rfl rfl sc_int (by rfl) ?_) | (refine wpList_load1_st H rfl 4 _ rfl rfl sc_bool (by rfl) ?_) | (refine wpList_load1_stG H (by rfl) 4 _ rfl rfl sc_bool (by rfl) ?_) | (refine wpList_load1_st H rfl 30 _ rfl rfl sc_Errno (by rfl) ?_) | (refine wpList_load1_stG H (by rfl) 30 _ rfl rfl sc_Errno (by rfl) ?_) | (refine wpList_load1_st H rfl 25 _ rfl rfl sc_Evs (by rfl) ?_) | (refine wpList_load1_stG H (by rfl) 25 _ rfl rfl sc_Evs (by rfl) ?_))
                | ((with_reducible refine here_store ?_); first | (refine wpList_store_st H rfl 46 _ _ rfl rfl rfl (by kernel_rfl) (by rfl) (by kernel_rfl) ?_; clear H; intro wx H) | (refine wpList_store_st H rfl 50 _ _ rfl rfl rfl (by kernel_rfl) (by rfl) (by kernel_rfl) ?_; clear H; intro wx H) | (refine wpList_store_st H rfl 37 _ _ rfl rfl rfl (by kernel_rfl) (by rfl) (by kernel_rfl) ?_; clear H; intro wx H) | (refine wpList_store_st H rfl 27 _ _ rfl rfl rfl (by kernel_rfl) (by rfl) (by kernel_rfl) ?_; clear H; intro wx H) | (refine wpList_store1_st H rfl 3 _ _ rfl rfl _ rfl (by rfl) s1_int (by rfl) (by rfl) ?_; clear H; intro wx H) | (refine wpList_store1_st H rfl 4 _ _ rfl rfl _ rfl (by rfl) s1_bool (by rfl) (by rfl) ?_; clear H; intro wx H) | (refine wpList_store1_st H rfl 30 _ _ rfl rfl _ rfl (by rfl) s1_Errno (by rfl) (by rfl) ?_; clear H; intro wx H) | (refine wpList_store1_st H rfl 25 _ _ rfl rfl _ rfl (by rfl) s1_Evs (by rfl) (by rfl) ?_; clear H; intro wx H))
                | ((with_reducible refine here_alloc ?_); first | (refine wpList_alloc_st H rfl 46 rfl _ q_zero ?_; clear H; intro gq10 wx H) | (refine wpList_alloc_st H rfl 50 rfl _ ans_zero ?_; clear H; intro ga10 wx H) | (refine wpList_alloc_st H rfl 37 rfl _ ev_zero ?_; clear H; intro ge10 wx H) | (refine wpList_alloc_st H rfl 27 rfl _ ber_zero ?_; clear H; intro gr10 wx H))
                | ((with_reducible refine here_box ?_); first | (refine wpList_box_st H rfl _ _ rfl _ rfl ?_; clear H; intro gb10 wx H))))
            (try simp only [Act.put])
            go_upto_region 12 with (first | (first
                | ((with_reducible refine here_load ?_); first | (refine wpList_load_st H rfl 46 _ rfl rfl row_Queue (by kernel_rfl) ?_) | (refine wpList_load_st H rfl 50 _ rfl rfl row_Answer (by kernel_rfl) ?_) | (refine wpList_load_st H rfl 37 _ rfl rfl row_Event (by kernel_rfl) ?_) | (refine wpList_load_st H rfl 27 _ rfl rfl row_Berth (by kernel_rfl) ?_) | (refine wpList_load1_st H rfl 3 _ rfl rfl sc_int (by rfl) ?_) | (refine wpList_load1_stG H (by rfl) 3 _ rfl rfl sc_int (by rfl) ?_) | (refine wpList_load1_st H rfl 4 _ rfl rfl sc_bool (by rfl) ?_) | (refine wpList_load1_stG H (by rfl) 4 _ rfl rfl sc_bool (by rfl) ?_) | (refine wpList_load1_st H rfl 30 _ rfl rfl sc_Errno (by rfl) ?_) | (refine wpList_load1_stG H (by rfl) 30 _ rfl rfl sc_Errno (by rfl) ?_) | (refine wpList_load1_st H rfl 25 _ rfl rfl sc_Evs (by rfl) ?_) | (refine wpList_load1_stG H (by rfl) 25 _ rfl rfl sc_Evs (by rfl) ?_))
                | ((with_reducible refine here_store ?_); first | (refine wpList_store_st H rfl 46 _ _ rfl rfl rfl (by kernel_rfl) (by rfl) (by kernel_rfl) ?_; clear H; intro wx H) | (refine wpList_store_st H rfl 50 _ _ rfl rfl rfl (by kernel_rfl) (by rfl) (by kernel_rfl) ?_; clear H; intro wx H) | (refine wpList_store_st H rfl 37 _ _ rfl rfl rfl (by kernel_rfl) (by rfl) (by kernel_rfl) ?_; clear H; intro wx H) | (refine wpList_store_st H rfl 27 _ _ rfl rfl rfl (by kernel_rfl) (by rfl) (by kernel_rfl) ?_; clear H; intro wx H) | (refine wpList_store1_st H rfl 3 _ _ rfl rfl _ rfl (by rfl) s1_int (by rfl) (by rfl) ?_; clear H; intro wx H) | (refine wpList_store1_st H rfl 4 _ _ rfl rfl _ rfl (by rfl) s1_bool (by rfl) (by rfl) ?_; clear H; intro wx H) | (refine wpList_store1_st H rfl 30 _ _ rfl rfl _ rfl (by rfl) s1_Errno (by rfl) (by rfl) ?_; clear H; intro wx H) | (refine wpList_store1_st H rfl 25 _ _ rfl rfl _ rfl (by rfl) s1_Evs (by rfl) (by rfl) ?_; clear H; intro wx H))
                | ((with_reducible refine here_alloc ?_); first | (refine wpList_alloc_st H rfl 46 rfl _ q_zero ?_; clear H; intro gq11 wx H) | (refine wpList_alloc_st H rfl 50 rfl _ ans_zero ?_; clear H; intro ga11 wx H) | (refine wpList_alloc_st H rfl 37 rfl _ ev_zero ?_; clear H; intro ge11 wx H) | (refine wpList_alloc_st H rfl 27 rfl _ ber_zero ?_; clear H; intro gr11 wx H))
                | ((with_reducible refine here_box ?_); first | (refine wpList_box_st H rfl _ _ rfl _ rfl ?_; clear H; intro gb11 wx H))))
            replace H : St w wx [.bl gu 27 #[.int .i64 1, .int .i64 (q + 1), .int .i64 0, .int .i64 0, .int .i64 0, .slice Au ((m + 1)) cu], evIt Au (es ++ [(⟨4, 0, 0, 0, 0, 0⟩ : Ev)]), .bl gr3 27 #[.int .i64 4, .int .i64 (q + 1), .int .i64 0, .int .i64 0, .int .i64 0, .slice At k ct'], evIt At (es.take k), .bl grx 27 #[.int .i64 1, .int .i64 q, .int .i64 0, .int .i64 0, .int .i64 0, .slice Ax m cx], evIt Ax es] := H.subm _
            obtain ⟨b8, off, hA8, hb8, q0, _⟩ := QA.out _ H
            rw [HG.out] at q0
            dsimp only at q0
            subst hA8
            go_wp2_with (first | ((with_reducible refine here_load ?_); first | refine wpList_loadPart_stG H (by rfl) 27 _ rfl rfl row_Berth (by kernel_rfl) (by rfl) _ (arr6_all _ _ _ _ _ _) ?_ | refine wpList_loadPart_stG H (by rfl) 50 _ rfl rfl row_Answer (by kernel_rfl) (by rfl) _ (arr4_all _ _ _ _) ?_ | refine wpList_loadPart_stG H (by rfl) 46 _ rfl rfl row_Queue (by kernel_rfl) (by rfl) _ (qArr_all _ _ _ _ _) ?_) | (first
                | ((with_reducible refine here_load ?_); first | (refine wpList_load_st H rfl 46 _ rfl rfl row_Queue (by kernel_rfl) ?_) | (refine wpList_load_st H rfl 50 _ rfl rfl row_Answer (by kernel_rfl) ?_) | (refine wpList_load_st H rfl 37 _ rfl rfl row_Event (by kernel_rfl) ?_) | (refine wpList_load_st H rfl 27 _ rfl rfl row_Berth (by kernel_rfl) ?_) | (refine wpList_load1_st H rfl 3 _ rfl rfl sc_int (by rfl) ?_) | (refine wpList_load1_stG H (by rfl) 3 _ rfl rfl sc_int (by rfl) ?_) | (refine wpList_load1_st H rfl 4 _ rfl rfl sc_bool (by rfl) ?_) | (refine wpList_load1_stG H (by rfl) 4 _ rfl rfl sc_bool (by rfl) ?_) | (refine wpList_load1_st H rfl 30 _ rfl rfl sc_Errno (by rfl) ?_) | (refine wpList_load1_stG H (by rfl) 30 _ rfl rfl sc_Errno (by rfl) ?_) | (refine wpList_load1_st H rfl 25 _ rfl rfl sc_Evs (by rfl) ?_) | (refine wpList_load1_stG H (by rfl) 25 _ rfl rfl sc_Evs (by rfl) ?_))
                | ((with_reducible refine here_store ?_); first | (refine wpList_store_st H rfl 46 _ _ rfl rfl rfl (by kernel_rfl) (by rfl) (by kernel_rfl) ?_; clear H; intro wx H) | (refine wpList_store_st H rfl 50 _ _ rfl rfl rfl (by kernel_rfl) (by rfl) (by kernel_rfl) ?_; clear H; intro wx H) | (refine wpList_store_st H rfl 37 _ _ rfl rfl rfl (by kernel_rfl) (by rfl) (by kernel_rfl) ?_; clear H; intro wx H) | (refine wpList_store_st H rfl 27 _ _ rfl rfl rfl (by kernel_rfl) (by rfl) (by kernel_rfl) ?_; clear H; intro wx H) | (refine wpList_store1_st H rfl 3 _ _ rfl rfl _ rfl (by rfl) s1_int (by rfl) (by rfl) ?_; clear H; intro wx H) | (refine wpList_store1_st H rfl 4 _ _ rfl rfl _ rfl (by rfl) s1_bool (by rfl) (by rfl) ?_; clear H; intro wx H) | (refine wpList_store1_st H rfl 30 _ _ rfl rfl _ rfl (by rfl) s1_Errno (by rfl) (by rfl) ?_; clear H; intro wx H) | (refine wpList_store1_st H rfl 25 _ _ rfl rfl _ rfl (by rfl) s1_Evs (by rfl) (by rfl) ?_; clear H; intro wx H))
                | ((with_reducible refine here_alloc ?_); first | (refine wpList_alloc_st H rfl 46 rfl _ q_zero ?_; clear H; intro gq12 wx H) | (refine wpList_alloc_st H rfl 50 rfl _ ans_zero ?_; clear H; intro ga12 wx H) | (refine wpList_alloc_st H rfl 37 rfl _ ev_zero ?_; clear H; intro ge12 wx H) | (refine wpList_alloc_st H rfl 27 rfl _ ber_zero ?_; clear H; intro gr12 wx H))
                | ((with_reducible refine here_box ?_); first | (refine wpList_box_st H rfl _ _ rfl _ rfl ?_; clear H; intro gb12 wx H))))
            go_ret
            exact ⟨rfl, H.bel⟩

end Go.Proofs.Ytjgbkicnagcmdaa
