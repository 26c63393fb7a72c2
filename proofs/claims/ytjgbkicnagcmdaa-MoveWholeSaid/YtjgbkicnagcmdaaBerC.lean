/- Berths: Caught, Begin. -/
import Derived.Test.YtjgbkicnagcmdaaBerO
namespace Go.Proofs.Ytjgbkicnagcmdaa
open Go.RowKit

set_option maxRecDepth 100000 in
set_option maxHeartbeats 8000000 in
theorem caught_st {w0 w : World} {I : List It} (b : BM) (A : Option Addr) (n c m : Nat) (k : Int) (hl : b.es.length = n) (hb : b.Ok m) (hm : m ≤ 150) (hc : n ≤ c) (H : St w0 w I) [h : Has I (evIt A b.es)] :
    Calls Try.prog 27 #[.agg (bArr b A n c), .int .i64 k] w (BPost w0 I (b.caughtR k)) := by
  have hn : n ≤ 150 := by have := hb.len; omega
  have HI := Lib.hid h
  have HB := Lib.hid hb
  have HL := Lib.hid hl
  have HS := hb.shape
  clear h hb hl
  have hfold : bArr b A n c = #[Value.int .i64 b.role, .int .i64 b.ep, .int .i64 b.frm, .int .i64 b.dst, .int .i64 b.rounds, .slice A n c] := rfl
  rw [hfold]
  obtain ⟨r, be, bf, bd, br, es⟩ := b
  unfold BM.Shape at HS
  dsimp only at HS HB HL HI ⊢
  have hln : es.length = n := HL.out
  have HR : r = 0 ∨ r = 1 ∨ r = 2 ∨ r = 3 ∨ r = 4 := by omega
  rcases HR with rfl | rfl | rfl | rfl | rfl
  · skip
    have hR : BM.caughtR ⟨0, be, bf, bd, br, es⟩ k = (⟨0, 0, 0, 0, 0, []⟩, 7) := by
      (unfold BM.caughtR BM.caught; dsimp only; repeat (first | rw [if_pos (by omega)] | rw [if_neg (by omega)]); try rfl)
    rw [hR]
    clear hR
    have HF := Lib.hid (fun W (h2 : St w0 W I) => (BPost.mk (r := (⟨0, 0, 0, 0, 0, []⟩, 7)) (n := 0) (c := 0) (A := none) rfl (Nat.le_refl _) (h2.old (s := 6) (n := 0) (A := none) (xs := []) Reads.none_) : BPost w0 I (⟨0, 0, 0, 0, 0, []⟩, 7) (.returned (.tuple #[.agg #[.int .i64 0, .int .i64 0, .int .i64 0, .int .i64 0, .int .i64 0, .slice none 0 0], .int .i64 7])) W))
    generalize BPost w0 I (⟨0, 0, 0, 0, 0, []⟩, 7) = POST at *
    go_enter Try.func27, Try.ntmps27
    clear hfold
    skip
    go_wp2_with (first | (go_at_call 33; have h := HI.out; refine (check_st ⟨0, be, bf, bd, br, es⟩ A n c m HL.out HB.out hm hc H).mono ?_; clear H h; rintro ed wy ⟨rfl, H⟩) | (go_at_call 34; refine (node_any _ _).mono ?_; rintro ed wy ⟨rfl, rfl⟩) | (first
        | ((with_reducible refine here_load ?_); first | (refine wpList_load_st H rfl 46 _ rfl rfl row_Queue (by kernel_rfl) ?_) | (refine wpList_load_st H rfl 50 _ rfl rfl row_Answer (by kernel_rfl) ?_) | (refine wpList_load_st H rfl 37 _ rfl rfl row_Event (by kernel_rfl) ?_) | (refine wpList_load_st H rfl 27 _ rfl rfl row_Berth (by kernel_rfl) ?_) | (refine wpList_load1_st H rfl 3 _ rfl rfl sc_int (by rfl) ?_) | (refine wpList_load1_stG H (by rfl) 3 _ rfl rfl sc_int (by rfl) ?_) | (refine wpList_load1_st H rfl 4 _ rfl rfl sc_bool (by rfl) ?_) | (refine wpList_load1_stG H (by rfl) 4 _ rfl rfl sc_bool (by rfl) ?_) | (refine wpList_load1_st H rfl 30 _ rfl rfl sc_Errno (by rfl) ?_) | (refine wpList_load1_stG H (by rfl) 30 _ rfl rfl sc_Errno (by rfl) ?_) | (refine wpList_load1_st H rfl 25 _ rfl rfl sc_Evs (by rfl) ?_) | (refine wpList_load1_stG H (by rfl) 25 _ rfl rfl sc_Evs (by rfl) ?_))
        | ((with_reducible refine here_store ?_); first | (refine wpList_store_st H rfl 46 _ _ rfl rfl rfl (by kernel_rfl) (by rfl) (by kernel_rfl) ?_; clear H; intro wx H) | (refine wpList_store_st H rfl 50 _ _ rfl rfl rfl (by kernel_rfl) (by rfl) (by kernel_rfl) ?_; clear H; intro wx H) | (refine wpList_store_st H rfl 37 _ _ rfl rfl rfl (by kernel_rfl) (by rfl) (by kernel_rfl) ?_; clear H; intro wx H) | (refine wpList_store_st H rfl 27 _ _ rfl rfl rfl (by kernel_rfl) (by rfl) (by kernel_rfl) ?_; clear H; intro wx H) | (refine wpList_store1_st H rfl 3 _ _ rfl rfl _ rfl (by rfl) s1_int (by rfl) (by rfl) ?_; clear H; intro wx H) | (refine wpList_store1_st H rfl 4 _ _ rfl rfl _ rfl (by rfl) s1_bool (by rfl) (by rfl) ?_; clear H; intro wx H) | (refine wpList_store1_st H rfl 30 _ _ rfl rfl _ rfl (by rfl) s1_Errno (by rfl) (by rfl) ?_; clear H; intro wx H) | (refine wpList_store1_st H rfl 25 _ _ rfl rfl _ rfl (by rfl) s1_Evs (by rfl) (by rfl) ?_; clear H; intro wx H))
        | ((with_reducible refine here_alloc ?_); first | (refine wpList_alloc_st H rfl 46 rfl _ q_zero ?_; clear H; intro gq wx H) | (refine wpList_alloc_st H rfl 50 rfl _ ans_zero ?_; clear H; intro ga wx H) | (refine wpList_alloc_st H rfl 37 rfl _ ev_zero ?_; clear H; intro ge wx H) | (refine wpList_alloc_st H rfl 27 rfl _ ber_zero ?_; clear H; intro gr wx H))
        | ((with_reducible refine here_box ?_); first | (refine wpList_box_st H rfl _ _ rfl _ rfl ?_; clear H; intro gb wx H))))
    have l4 : (loadVar 27 ⟨gr, 0, none⟩).run Try.prog wx = .ok (.agg #[.int .i64 0, .int .i64 0, .int .i64 0, .int .i64 0, .int .i64 0, .slice none 0 0]) wx := H.loadRow 27 gr row_Berth (P := Try.prog) (by kernel_rfl)
    exact bodyPost_ret (v := .tuple #[.agg #[.int .i64 0, .int .i64 0, .int .i64 0, .int .i64 0, .int .i64 0, .slice none 0 0], .int .i64 7]) (by simp [results, Try.results27, asAddr, l4]) rfl (HF.out _ (H.subm _))
  · skip
    have hR : BM.caughtR ⟨1, be, bf, bd, br, es⟩ k = (⟨0, 0, 0, 0, 0, []⟩, 7) := by
      (unfold BM.caughtR BM.caught; dsimp only; repeat (first | rw [if_pos (by omega)] | rw [if_neg (by omega)]); try rfl)
    rw [hR]
    clear hR
    have HF := Lib.hid (fun W (h2 : St w0 W I) => (BPost.mk (r := (⟨0, 0, 0, 0, 0, []⟩, 7)) (n := 0) (c := 0) (A := none) rfl (Nat.le_refl _) (h2.old (s := 6) (n := 0) (A := none) (xs := []) Reads.none_) : BPost w0 I (⟨0, 0, 0, 0, 0, []⟩, 7) (.returned (.tuple #[.agg #[.int .i64 0, .int .i64 0, .int .i64 0, .int .i64 0, .int .i64 0, .slice none 0 0], .int .i64 7])) W))
    generalize BPost w0 I (⟨0, 0, 0, 0, 0, []⟩, 7) = POST at *
    go_enter Try.func27, Try.ntmps27
    clear hfold
    skip
    go_wp2_with (first | (go_at_call 33; have h := HI.out; refine (check_st ⟨1, be, bf, bd, br, es⟩ A n c m HL.out HB.out hm hc H).mono ?_; clear H h; rintro ed wy ⟨rfl, H⟩) | (go_at_call 34; refine (node_any _ _).mono ?_; rintro ed wy ⟨rfl, rfl⟩) | (first
        | ((with_reducible refine here_load ?_); first | (refine wpList_load_st H rfl 46 _ rfl rfl row_Queue (by kernel_rfl) ?_) | (refine wpList_load_st H rfl 50 _ rfl rfl row_Answer (by kernel_rfl) ?_) | (refine wpList_load_st H rfl 37 _ rfl rfl row_Event (by kernel_rfl) ?_) | (refine wpList_load_st H rfl 27 _ rfl rfl row_Berth (by kernel_rfl) ?_) | (refine wpList_load1_st H rfl 3 _ rfl rfl sc_int (by rfl) ?_) | (refine wpList_load1_stG H (by rfl) 3 _ rfl rfl sc_int (by rfl) ?_) | (refine wpList_load1_st H rfl 4 _ rfl rfl sc_bool (by rfl) ?_) | (refine wpList_load1_stG H (by rfl) 4 _ rfl rfl sc_bool (by rfl) ?_) | (refine wpList_load1_st H rfl 30 _ rfl rfl sc_Errno (by rfl) ?_) | (refine wpList_load1_stG H (by rfl) 30 _ rfl rfl sc_Errno (by rfl) ?_) | (refine wpList_load1_st H rfl 25 _ rfl rfl sc_Evs (by rfl) ?_) | (refine wpList_load1_stG H (by rfl) 25 _ rfl rfl sc_Evs (by rfl) ?_))
        | ((with_reducible refine here_store ?_); first | (refine wpList_store_st H rfl 46 _ _ rfl rfl rfl (by kernel_rfl) (by rfl) (by kernel_rfl) ?_; clear H; intro wx H) | (refine wpList_store_st H rfl 50 _ _ rfl rfl rfl (by kernel_rfl) (by rfl) (by kernel_rfl) ?_; clear H; intro wx H) | (refine wpList_store_st H rfl 37 _ _ rfl rfl rfl (by kernel_rfl) (by rfl) (by kernel_rfl) ?_; clear H; intro wx H) | (refine wpList_store_st H rfl 27 _ _ rfl rfl rfl (by kernel_rfl) (by rfl) (by kernel_rfl) ?_; clear H; intro wx H) | (refine wpList_store1_st H rfl 3 _ _ rfl rfl _ rfl (by rfl) s1_int (by rfl) (by rfl) ?_; clear H; intro wx H) | (refine wpList_store1_st H rfl 4 _ _ rfl rfl _ rfl (by rfl) s1_bool (by rfl) (by rfl) ?_; clear H; intro wx H) | (refine wpList_store1_st H rfl 30 _ _ rfl rfl _ rfl (by rfl) s1_Errno (by rfl) (by rfl) ?_; clear H; intro wx H) | (refine wpList_store1_st H rfl 25 _ _ rfl rfl _ rfl (by rfl) s1_Evs (by rfl) (by rfl) ?_; clear H; intro wx H))
        | ((with_reducible refine here_alloc ?_); first | (refine wpList_alloc_st H rfl 46 rfl _ q_zero ?_; clear H; intro gq wx H) | (refine wpList_alloc_st H rfl 50 rfl _ ans_zero ?_; clear H; intro ga wx H) | (refine wpList_alloc_st H rfl 37 rfl _ ev_zero ?_; clear H; intro ge wx H) | (refine wpList_alloc_st H rfl 27 rfl _ ber_zero ?_; clear H; intro gr wx H))
        | ((with_reducible refine here_box ?_); first | (refine wpList_box_st H rfl _ _ rfl _ rfl ?_; clear H; intro gb wx H))))
    have l4 : (loadVar 27 ⟨gr, 0, none⟩).run Try.prog wx = .ok (.agg #[.int .i64 0, .int .i64 0, .int .i64 0, .int .i64 0, .int .i64 0, .slice none 0 0]) wx := H.loadRow 27 gr row_Berth (P := Try.prog) (by kernel_rfl)
    exact bodyPost_ret (v := .tuple #[.agg #[.int .i64 0, .int .i64 0, .int .i64 0, .int .i64 0, .int .i64 0, .slice none 0 0], .int .i64 7]) (by simp [results, Try.results27, asAddr, l4]) rfl (HF.out _ (H.subm _))
  · skip
    by_cases h1 : k < 0
    · skip
      have hR : BM.caughtR ⟨2, be, bf, bd, br, es⟩ k = (⟨0, 0, 0, 0, 0, []⟩, 2) := by
        (unfold BM.caughtR BM.caught; dsimp only; repeat (first | rw [if_pos (by omega)] | rw [if_neg (by omega)]); try rfl)
      rw [hR]
      clear hR
      have HF := Lib.hid (fun W (h2 : St w0 W I) => (BPost.mk (r := (⟨0, 0, 0, 0, 0, []⟩, 2)) (n := 0) (c := 0) (A := none) rfl (Nat.le_refl _) (h2.old (s := 6) (n := 0) (A := none) (xs := []) Reads.none_) : BPost w0 I (⟨0, 0, 0, 0, 0, []⟩, 2) (.returned (.tuple #[.agg #[.int .i64 0, .int .i64 0, .int .i64 0, .int .i64 0, .int .i64 0, .slice none 0 0], .int .i64 2])) W))
      generalize BPost w0 I (⟨0, 0, 0, 0, 0, []⟩, 2) = POST at *
      go_enter Try.func27, Try.ntmps27
      clear hfold
      skip
      go_wp2_with (first | (go_at_call 33; have h := HI.out; refine (check_st ⟨2, be, bf, bd, br, es⟩ A n c m HL.out HB.out hm hc H).mono ?_; clear H h; rintro ed wy ⟨rfl, H⟩) | (go_at_call 34; refine (node_any _ _).mono ?_; rintro ed wy ⟨rfl, rfl⟩) | (first
          | ((with_reducible refine here_load ?_); first | (refine wpList_load_st H rfl 46 _ rfl rfl row_Queue (by kernel_rfl) ?_) | (refine wpList_load_st H rfl 50 _ rfl rfl row_Answer (by kernel_rfl) ?_) | (refine wpList_load_st H rfl 37 _ rfl rfl row_Event (by kernel_rfl) ?_) | (refine wpList_load_st H rfl 27 _ rfl rfl row_Berth (by kernel_rfl) ?_) | (refine wpList_load1_st H rfl 3 _ rfl rfl sc_int (by rfl) ?_) | (refine wpList_load1_stG H (by rfl) 3 _ rfl rfl sc_int (by rfl) ?_) | (refine wpList_load1_st H rfl 4 _ rfl rfl sc_bool (by rfl) ?_) | (refine wpList_load1_stG H (by rfl) 4 _ rfl rfl sc_bool (by rfl) ?_) | (refine wpList_load1_st H rfl 30 _ rfl rfl sc_Errno (by rfl) ?_) | (refine wpList_load1_stG H (by rfl) 30 _ rfl rfl sc_Errno (by rfl) ?_) | (refine wpList_load1_st H rfl 25 _ rfl rfl sc_Evs (by rfl) ?_) | (refine wpList_load1_stG H (by rfl) 25 _ rfl rfl sc_Evs (by rfl) ?_))
          | ((with_reducible refine here_store ?_); first | (refine wpList_store_st H rfl 46 _ _ rfl rfl rfl (by kernel_rfl) (by rfl) (by kernel_rfl) ?_; clear H; intro wx H) | (refine wpList_store_st H rfl 50 _ _ rfl rfl rfl (by kernel_rfl) (by rfl) (by kernel_rfl) ?_; clear H; intro wx H) | (refine wpList_store_st H rfl 37 _ _ rfl rfl rfl (by kernel_rfl) (by rfl) (by kernel_rfl) ?_; clear H; intro wx H) | (refine wpList_store_st H rfl 27 _ _ rfl rfl rfl (by kernel_rfl) (by rfl) (by kernel_rfl) ?_; clear H; intro wx H) | (refine wpList_store1_st H rfl 3 _ _ rfl rfl _ rfl (by rfl) s1_int (by rfl) (by rfl) ?_; clear H; intro wx H) | (refine wpList_store1_st H rfl 4 _ _ rfl rfl _ rfl (by rfl) s1_bool (by rfl) (by rfl) ?_; clear H; intro wx H) | (refine wpList_store1_st H rfl 30 _ _ rfl rfl _ rfl (by rfl) s1_Errno (by rfl) (by rfl) ?_; clear H; intro wx H) | (refine wpList_store1_st H rfl 25 _ _ rfl rfl _ rfl (by rfl) s1_Evs (by rfl) (by rfl) ?_; clear H; intro wx H))
          | ((with_reducible refine here_alloc ?_); first | (refine wpList_alloc_st H rfl 46 rfl _ q_zero ?_; clear H; intro gq wx H) | (refine wpList_alloc_st H rfl 50 rfl _ ans_zero ?_; clear H; intro ga wx H) | (refine wpList_alloc_st H rfl 37 rfl _ ev_zero ?_; clear H; intro ge wx H) | (refine wpList_alloc_st H rfl 27 rfl _ ber_zero ?_; clear H; intro gr wx H))
          | ((with_reducible refine here_box ?_); first | (refine wpList_box_st H rfl _ _ rfl _ rfl ?_; clear H; intro gb wx H))))
      have l4 : (loadVar 27 ⟨gr, 0, none⟩).run Try.prog wx = .ok (.agg #[.int .i64 0, .int .i64 0, .int .i64 0, .int .i64 0, .int .i64 0, .slice none 0 0]) wx := H.loadRow 27 gr row_Berth (P := Try.prog) (by kernel_rfl)
      exact bodyPost_ret (v := .tuple #[.agg #[.int .i64 0, .int .i64 0, .int .i64 0, .int .i64 0, .int .i64 0, .slice none 0 0], .int .i64 2]) (by simp [results, Try.results27, asAddr, l4]) rfl (HF.out _ (H.subm _))
    have d1 : decide (k < 0) = false := decide_eq_false h1
    by_cases h2 : (n : Int) < k
    · have d2 := decide_eq_true h2
      have hR : BM.caughtR ⟨2, be, bf, bd, br, es⟩ k = (⟨0, 0, 0, 0, 0, []⟩, 2) := by
        (unfold BM.caughtR BM.caught; dsimp only; repeat (first | rw [if_pos (by omega)] | rw [if_neg (by omega)]); try rfl)
      rw [hR]
      clear hR
      have HF := Lib.hid (fun W (h2 : St w0 W I) => (BPost.mk (r := (⟨0, 0, 0, 0, 0, []⟩, 2)) (n := 0) (c := 0) (A := none) rfl (Nat.le_refl _) (h2.old (s := 6) (n := 0) (A := none) (xs := []) Reads.none_) : BPost w0 I (⟨0, 0, 0, 0, 0, []⟩, 2) (.returned (.tuple #[.agg #[.int .i64 0, .int .i64 0, .int .i64 0, .int .i64 0, .int .i64 0, .slice none 0 0], .int .i64 2])) W))
      generalize BPost w0 I (⟨0, 0, 0, 0, 0, []⟩, 2) = POST at *
      go_enter Try.func27, Try.ntmps27
      clear hfold
      skip
      go_wp2_with (first | (go_at_call 33; have h := HI.out; refine (check_st ⟨2, be, bf, bd, br, es⟩ A n c m HL.out HB.out hm hc H).mono ?_; clear H h; rintro ed wy ⟨rfl, H⟩) | (go_at_call 34; refine (node_any _ _).mono ?_; rintro ed wy ⟨rfl, rfl⟩) | (first
          | ((with_reducible refine here_load ?_); first | (refine wpList_load_st H rfl 46 _ rfl rfl row_Queue (by kernel_rfl) ?_) | (refine wpList_load_st H rfl 50 _ rfl rfl row_Answer (by kernel_rfl) ?_) | (refine wpList_load_st H rfl 37 _ rfl rfl row_Event (by kernel_rfl) ?_) | (refine wpList_load_st H rfl 27 _ rfl rfl row_Berth (by kernel_rfl) ?_) | (refine wpList_load1_st H rfl 3 _ rfl rfl sc_int (by rfl) ?_) | (refine wpList_load1_stG H (by rfl) 3 _ rfl rfl sc_int (by rfl) ?_) | (refine wpList_load1_st H rfl 4 _ rfl rfl sc_bool (by rfl) ?_) | (refine wpList_load1_stG H (by rfl) 4 _ rfl rfl sc_bool (by rfl) ?_) | (refine wpList_load1_st H rfl 30 _ rfl rfl sc_Errno (by rfl) ?_) | (refine wpList_load1_stG H (by rfl) 30 _ rfl rfl sc_Errno (by rfl) ?_) | (refine wpList_load1_st H rfl 25 _ rfl rfl sc_Evs (by rfl) ?_) | (refine wpList_load1_stG H (by rfl) 25 _ rfl rfl sc_Evs (by rfl) ?_))
          | ((with_reducible refine here_store ?_); first | (refine wpList_store_st H rfl 46 _ _ rfl rfl rfl (by kernel_rfl) (by rfl) (by kernel_rfl) ?_; clear H; intro wx H) | (refine wpList_store_st H rfl 50 _ _ rfl rfl rfl (by kernel_rfl) (by rfl) (by kernel_rfl) ?_; clear H; intro wx H) | (refine wpList_store_st H rfl 37 _ _ rfl rfl rfl (by kernel_rfl) (by rfl) (by kernel_rfl) ?_; clear H; intro wx H) | (refine wpList_store_st H rfl 27 _ _ rfl rfl rfl (by kernel_rfl) (by rfl) (by kernel_rfl) ?_; clear H; intro wx H) | (refine wpList_store1_st H rfl 3 _ _ rfl rfl _ rfl (by rfl) s1_int (by rfl) (by rfl) ?_; clear H; intro wx H) | (refine wpList_store1_st H rfl 4 _ _ rfl rfl _ rfl (by rfl) s1_bool (by rfl) (by rfl) ?_; clear H; intro wx H) | (refine wpList_store1_st H rfl 30 _ _ rfl rfl _ rfl (by rfl) s1_Errno (by rfl) (by rfl) ?_; clear H; intro wx H) | (refine wpList_store1_st H rfl 25 _ _ rfl rfl _ rfl (by rfl) s1_Evs (by rfl) (by rfl) ?_; clear H; intro wx H))
          | ((with_reducible refine here_alloc ?_); first | (refine wpList_alloc_st H rfl 46 rfl _ q_zero ?_; clear H; intro gq wx H) | (refine wpList_alloc_st H rfl 50 rfl _ ans_zero ?_; clear H; intro ga wx H) | (refine wpList_alloc_st H rfl 37 rfl _ ev_zero ?_; clear H; intro ge wx H) | (refine wpList_alloc_st H rfl 27 rfl _ ber_zero ?_; clear H; intro gr wx H))
          | ((with_reducible refine here_box ?_); first | (refine wpList_box_st H rfl _ _ rfl _ rfl ?_; clear H; intro gb wx H))))
      have l4 : (loadVar 27 ⟨gr, 0, none⟩).run Try.prog wx = .ok (.agg #[.int .i64 0, .int .i64 0, .int .i64 0, .int .i64 0, .int .i64 0, .slice none 0 0]) wx := H.loadRow 27 gr row_Berth (P := Try.prog) (by kernel_rfl)
      exact bodyPost_ret (v := .tuple #[.agg #[.int .i64 0, .int .i64 0, .int .i64 0, .int .i64 0, .int .i64 0, .slice none 0 0], .int .i64 2]) (by simp [results, Try.results27, asAddr, l4]) rfl (HF.out _ (H.subm _))
    have d2 := decide_eq_false h2
    by_cases h3 : k = (n : Int)
    · subst h3
      have hR : BM.caughtR ⟨2, be, bf, bd, br, es⟩ (n : Int) = (⟨3, be, bf, bd, 0, es⟩, 0) := by
        (unfold BM.caughtR BM.caught; dsimp only; repeat (first | rw [if_pos (by omega)] | rw [if_neg (by omega)]); try rfl)
      rw [hR]
      clear hR
      have HF := Lib.hid (fun W A' c' (h1 : n ≤ c') (h2 : St w0 W (evIt A' es :: I)) => (BPost.mk (r := (⟨3, be, bf, bd, 0, es⟩, 0)) HL.out h1 h2 : BPost w0 I (⟨3, be, bf, bd, 0, es⟩, 0) (.returned (.tuple #[.agg #[.int .i64 3, .int .i64 be, .int .i64 bf, .int .i64 bd, .int .i64 0, .slice A' n c'], .int .i64 0])) W))
      generalize BPost w0 I (⟨3, be, bf, bd, 0, es⟩, 0) = POST at *
      go_enter Try.func27, Try.ntmps27
      clear hfold
      skip
      go_wp2_with (first | (go_at_call 33; have h := HI.out; refine (check_st ⟨2, be, bf, bd, br, es⟩ A n c m HL.out HB.out hm hc H).mono ?_; clear H h; rintro ed wy ⟨rfl, H⟩) | (go_at_call 34; refine (node_any _ _).mono ?_; rintro ed wy ⟨rfl, rfl⟩) | (go_at_call 35; have h := HI.out; refine (with_nil ⟨3, be, bf, bd, 0, es⟩ A n c HL.out (by omega) hc H).mono ?_; clear H h; rintro ed wy ⟨A9, c9, rfl, hc9, H⟩) | (first
          | ((with_reducible refine here_load ?_); first | (refine wpList_load_st H rfl 46 _ rfl rfl row_Queue (by kernel_rfl) ?_) | (refine wpList_load_st H rfl 50 _ rfl rfl row_Answer (by kernel_rfl) ?_) | (refine wpList_load_st H rfl 37 _ rfl rfl row_Event (by kernel_rfl) ?_) | (refine wpList_load_st H rfl 27 _ rfl rfl row_Berth (by kernel_rfl) ?_) | (refine wpList_load1_st H rfl 3 _ rfl rfl sc_int (by rfl) ?_) | (refine wpList_load1_stG H (by rfl) 3 _ rfl rfl sc_int (by rfl) ?_) | (refine wpList_load1_st H rfl 4 _ rfl rfl sc_bool (by rfl) ?_) | (refine wpList_load1_stG H (by rfl) 4 _ rfl rfl sc_bool (by rfl) ?_) | (refine wpList_load1_st H rfl 30 _ rfl rfl sc_Errno (by rfl) ?_) | (refine wpList_load1_stG H (by rfl) 30 _ rfl rfl sc_Errno (by rfl) ?_) | (refine wpList_load1_st H rfl 25 _ rfl rfl sc_Evs (by rfl) ?_) | (refine wpList_load1_stG H (by rfl) 25 _ rfl rfl sc_Evs (by rfl) ?_))
          | ((with_reducible refine here_store ?_); first | (refine wpList_store_st H rfl 46 _ _ rfl rfl rfl (by kernel_rfl) (by rfl) (by kernel_rfl) ?_; clear H; intro wx H) | (refine wpList_store_st H rfl 50 _ _ rfl rfl rfl (by kernel_rfl) (by rfl) (by kernel_rfl) ?_; clear H; intro wx H) | (refine wpList_store_st H rfl 37 _ _ rfl rfl rfl (by kernel_rfl) (by rfl) (by kernel_rfl) ?_; clear H; intro wx H) | (refine wpList_store_st H rfl 27 _ _ rfl rfl rfl (by kernel_rfl) (by rfl) (by kernel_rfl) ?_; clear H; intro wx H) | (refine wpList_store1_st H rfl 3 _ _ rfl rfl _ rfl (by rfl) s1_int (by rfl) (by rfl) ?_; clear H; intro wx H) | (refine wpList_store1_st H rfl 4 _ _ rfl rfl _ rfl (by rfl) s1_bool (by rfl) (by rfl) ?_; clear H; intro wx H) | (refine wpList_store1_st H rfl 30 _ _ rfl rfl _ rfl (by rfl) s1_Errno (by rfl) (by rfl) ?_; clear H; intro wx H) | (refine wpList_store1_st H rfl 25 _ _ rfl rfl _ rfl (by rfl) s1_Evs (by rfl) (by rfl) ?_; clear H; intro wx H))
          | ((with_reducible refine here_alloc ?_); first | (refine wpList_alloc_st H rfl 46 rfl _ q_zero ?_; clear H; intro gq wx H) | (refine wpList_alloc_st H rfl 50 rfl _ ans_zero ?_; clear H; intro ga wx H) | (refine wpList_alloc_st H rfl 37 rfl _ ev_zero ?_; clear H; intro ge wx H) | (refine wpList_alloc_st H rfl 27 rfl _ ber_zero ?_; clear H; intro gr wx H))
          | ((with_reducible refine here_box ?_); first | (refine wpList_box_st H rfl _ _ rfl _ rfl ?_; clear H; intro gb wx H))))
      have l4 : (loadVar 27 ⟨gr, 0, none⟩).run Try.prog wx = .ok (.agg #[.int .i64 3, .int .i64 be, .int .i64 bf, .int .i64 bd, .int .i64 0, .slice A9 n c9]) wx := H.loadRow 27 gr row_Berth (P := Try.prog) (by kernel_rfl)
      exact bodyPost_ret (v := .tuple #[.agg #[.int .i64 3, .int .i64 be, .int .i64 bf, .int .i64 bd, .int .i64 0, .slice A9 n c9], .int .i64 0]) (by simp [results, Try.results27, asAddr, l4]) rfl (HF.out _ _ _ hc9 (H.subm _))
    · skip
      have g1a : ((k : Int) == (n : Int)) = false := by simp; omega
      have g1b : decide ((k : Int) = (n : Int)) = false := by simp; omega
      by_cases h4 : br = 4
      · subst h4
        have hR : BM.caughtR ⟨2, be, bf, bd, 4, es⟩ k = (⟨3, be, bf, bd, 0, es⟩, 0) := by
          (unfold BM.caughtR BM.caught; dsimp only; repeat (first | rw [if_pos (by omega)] | rw [if_neg (by omega)]); try rfl)
        rw [hR]
        clear hR
        have HF := Lib.hid (fun W A' c' (h1 : n ≤ c') (h2 : St w0 W (evIt A' es :: I)) => (BPost.mk (r := (⟨3, be, bf, bd, 0, es⟩, 0)) HL.out h1 h2 : BPost w0 I (⟨3, be, bf, bd, 0, es⟩, 0) (.returned (.tuple #[.agg #[.int .i64 3, .int .i64 be, .int .i64 bf, .int .i64 bd, .int .i64 0, .slice A' n c'], .int .i64 0])) W))
        generalize BPost w0 I (⟨3, be, bf, bd, 0, es⟩, 0) = POST at *
        go_enter Try.func27, Try.ntmps27
        clear hfold
        skip
        go_wp2_with (first | (go_at_call 33; have h := HI.out; refine (check_st ⟨2, be, bf, bd, 4, es⟩ A n c m HL.out HB.out hm hc H).mono ?_; clear H h; rintro ed wy ⟨rfl, H⟩) | (go_at_call 34; refine (node_any _ _).mono ?_; rintro ed wy ⟨rfl, rfl⟩) | (go_at_call 35; have h := HI.out; refine (with_nil ⟨3, be, bf, bd, 0, es⟩ A n c HL.out (by omega) hc H).mono ?_; clear H h; rintro ed wy ⟨A9, c9, rfl, hc9, H⟩) | (first
            | ((with_reducible refine here_load ?_); first | (refine wpList_load_st H rfl 46 _ rfl rfl row_Queue (by kernel_rfl) ?_) | (refine wpList_load_st H rfl 50 _ rfl rfl row_Answer (by kernel_rfl) ?_) | (refine wpList_load_st H rfl 37 _ rfl rfl row_Event (by kernel_rfl) ?_) | (refine wpList_load_st H rfl 27 _ rfl rfl row_Berth (by kernel_rfl) ?_) | (refine wpList_load1_st H rfl 3 _ rfl rfl sc_int (by rfl) ?_) | (refine wpList_load1_stG H (by rfl) 3 _ rfl rfl sc_int (by rfl) ?_) | (refine wpList_load1_st H rfl 4 _ rfl rfl sc_bool (by rfl) ?_) | (refine wpList_load1_stG H (by rfl) 4 _ rfl rfl sc_bool (by rfl) ?_) | (refine wpList_load1_st H rfl 30 _ rfl rfl sc_Errno (by rfl) ?_) | (refine wpList_load1_stG H (by rfl) 30 _ rfl rfl sc_Errno (by rfl) ?_) | (refine wpList_load1_st H rfl 25 _ rfl rfl sc_Evs (by rfl) ?_) | (refine wpList_load1_stG H (by rfl) 25 _ rfl rfl sc_Evs (by rfl) ?_))
            | ((with_reducible refine here_store ?_); first | (refine wpList_store_st H rfl 46 _ _ rfl rfl rfl (by kernel_rfl) (by rfl) (by kernel_rfl) ?_; clear H; intro wx H) | (refine wpList_store_st H rfl 50 _ _ rfl rfl rfl (by kernel_rfl) (by rfl) (by kernel_rfl) ?_; clear H; intro wx H) | (refine wpList_store_st H rfl 37 _ _ rfl rfl rfl (by kernel_rfl) (by rfl) (by kernel_rfl) ?_; clear H; intro wx H) | (refine wpList_store_st H rfl 27 _ _ rfl rfl rfl (by kernel_rfl) (by rfl) (by kernel_rfl) ?_; clear H; intro wx H) | (refine wpList_store1_st H rfl 3 _ _ rfl rfl _ rfl (by rfl) s1_int (by rfl) (by rfl) ?_; clear H; intro wx H) | (refine wpList_store1_st H rfl 4 _ _ rfl rfl _ rfl (by rfl) s1_bool (by rfl) (by rfl) ?_; clear H; intro wx H) | (refine wpList_store1_st H rfl 30 _ _ rfl rfl _ rfl (by rfl) s1_Errno (by rfl) (by rfl) ?_; clear H; intro wx H) | (refine wpList_store1_st H rfl 25 _ _ rfl rfl _ rfl (by rfl) s1_Evs (by rfl) (by rfl) ?_; clear H; intro wx H))
            | ((with_reducible refine here_alloc ?_); first | (refine wpList_alloc_st H rfl 46 rfl _ q_zero ?_; clear H; intro gq wx H) | (refine wpList_alloc_st H rfl 50 rfl _ ans_zero ?_; clear H; intro ga wx H) | (refine wpList_alloc_st H rfl 37 rfl _ ev_zero ?_; clear H; intro ge wx H) | (refine wpList_alloc_st H rfl 27 rfl _ ber_zero ?_; clear H; intro gr wx H))
            | ((with_reducible refine here_box ?_); first | (refine wpList_box_st H rfl _ _ rfl _ rfl ?_; clear H; intro gb wx H))))
        have l4 : (loadVar 27 ⟨gr, 0, none⟩).run Try.prog wx = .ok (.agg #[.int .i64 3, .int .i64 be, .int .i64 bf, .int .i64 bd, .int .i64 0, .slice A9 n c9]) wx := H.loadRow 27 gr row_Berth (P := Try.prog) (by kernel_rfl)
        exact bodyPost_ret (v := .tuple #[.agg #[.int .i64 3, .int .i64 be, .int .i64 bf, .int .i64 bd, .int .i64 0, .slice A9 n c9], .int .i64 0]) (by simp [results, Try.results27, asAddr, l4]) rfl (HF.out _ _ _ hc9 (H.subm _))
      · skip
        have g2a : ((br : Int) == 4) = false := by simp; omega
        have g2b : decide ((br : Int) = 4) = false := by simp; omega
        have w1 : IntKind.i64.wrap (br + 1) = br + 1 := IntWalk.i64_in _ (by omega)
        have hR : BM.caughtR ⟨2, be, bf, bd, br, es⟩ k = (⟨2, be, bf, bd, (br + 1), es⟩, 0) := by
          (unfold BM.caughtR BM.caught; dsimp only; repeat (first | rw [if_pos (by omega)] | rw [if_neg (by omega)]); try rfl)
        rw [hR]
        clear hR
        have HF := Lib.hid (fun W A' c' (h1 : n ≤ c') (h2 : St w0 W (evIt A' es :: I)) => (BPost.mk (r := (⟨2, be, bf, bd, (br + 1), es⟩, 0)) HL.out h1 h2 : BPost w0 I (⟨2, be, bf, bd, (br + 1), es⟩, 0) (.returned (.tuple #[.agg #[.int .i64 2, .int .i64 be, .int .i64 bf, .int .i64 bd, .int .i64 (br + 1), .slice A' n c'], .int .i64 0])) W))
        generalize BPost w0 I (⟨2, be, bf, bd, (br + 1), es⟩, 0) = POST at *
        go_enter Try.func27, Try.ntmps27
        clear hfold
        skip
        go_wp2_with (first | (go_at_call 33; have h := HI.out; refine (check_st ⟨2, be, bf, bd, br, es⟩ A n c m HL.out HB.out hm hc H).mono ?_; clear H h; rintro ed wy ⟨rfl, H⟩) | (go_at_call 34; refine (node_any _ _).mono ?_; rintro ed wy ⟨rfl, rfl⟩) | (go_at_call 35; have h := HI.out; refine (with_nil ⟨2, be, bf, bd, (br + 1), es⟩ A n c HL.out (by omega) hc H).mono ?_; clear H h; rintro ed wy ⟨A9, c9, rfl, hc9, H⟩) | (first
            | ((with_reducible refine here_load ?_); first | (refine wpList_load_st H rfl 46 _ rfl rfl row_Queue (by kernel_rfl) ?_) | (refine wpList_load_st H rfl 50 _ rfl rfl row_Answer (by kernel_rfl) ?_) | (refine wpList_load_st H rfl 37 _ rfl rfl row_Event (by kernel_rfl) ?_) | (refine wpList_load_st H rfl 27 _ rfl rfl row_Berth (by kernel_rfl) ?_) | (refine wpList_load1_st H rfl 3 _ rfl rfl sc_int (by rfl) ?_) | (refine wpList_load1_stG H (by rfl) 3 _ rfl rfl sc_int (by rfl) ?_) | (refine wpList_load1_st H rfl 4 _ rfl rfl sc_bool (by rfl) ?_) | (refine wpList_load1_stG H (by rfl) 4 _ rfl rfl sc_bool (by rfl) ?_) | (refine wpList_load1_st H rfl 30 _ rfl rfl sc_Errno (by rfl) ?_) | (refine wpList_load1_stG H (by rfl) 30 _ rfl rfl sc_Errno (by rfl) ?_) | (refine wpList_load1_st H rfl 25 _ rfl rfl sc_Evs (by rfl) ?_) | (refine wpList_load1_stG H (by rfl) 25 _ rfl rfl sc_Evs (by rfl) ?_))
            | ((with_reducible refine here_store ?_); first | (refine wpList_store_st H rfl 46 _ _ rfl rfl rfl (by kernel_rfl) (by rfl) (by kernel_rfl) ?_; clear H; intro wx H) | (refine wpList_store_st H rfl 50 _ _ rfl rfl rfl (by kernel_rfl) (by rfl) (by kernel_rfl) ?_; clear H; intro wx H) | (refine wpList_store_st H rfl 37 _ _ rfl rfl rfl (by kernel_rfl) (by rfl) (by kernel_rfl) ?_; clear H; intro wx H) | (refine wpList_store_st H rfl 27 _ _ rfl rfl rfl (by kernel_rfl) (by rfl) (by kernel_rfl) ?_; clear H; intro wx H) | (refine wpList_store1_st H rfl 3 _ _ rfl rfl _ rfl (by rfl) s1_int (by rfl) (by rfl) ?_; clear H; intro wx H) | (refine wpList_store1_st H rfl 4 _ _ rfl rfl _ rfl (by rfl) s1_bool (by rfl) (by rfl) ?_; clear H; intro wx H) | (refine wpList_store1_st H rfl 30 _ _ rfl rfl _ rfl (by rfl) s1_Errno (by rfl) (by rfl) ?_; clear H; intro wx H) | (refine wpList_store1_st H rfl 25 _ _ rfl rfl _ rfl (by rfl) s1_Evs (by rfl) (by rfl) ?_; clear H; intro wx H))
            | ((with_reducible refine here_alloc ?_); first | (refine wpList_alloc_st H rfl 46 rfl _ q_zero ?_; clear H; intro gq wx H) | (refine wpList_alloc_st H rfl 50 rfl _ ans_zero ?_; clear H; intro ga wx H) | (refine wpList_alloc_st H rfl 37 rfl _ ev_zero ?_; clear H; intro ge wx H) | (refine wpList_alloc_st H rfl 27 rfl _ ber_zero ?_; clear H; intro gr wx H))
            | ((with_reducible refine here_box ?_); first | (refine wpList_box_st H rfl _ _ rfl _ rfl ?_; clear H; intro gb wx H))))
        have l4 : (loadVar 27 ⟨gr, 0, none⟩).run Try.prog wx = .ok (.agg #[.int .i64 2, .int .i64 be, .int .i64 bf, .int .i64 bd, .int .i64 (br + 1), .slice A9 n c9]) wx := H.loadRow 27 gr row_Berth (P := Try.prog) (by kernel_rfl)
        exact bodyPost_ret (v := .tuple #[.agg #[.int .i64 2, .int .i64 be, .int .i64 bf, .int .i64 bd, .int .i64 (br + 1), .slice A9 n c9], .int .i64 0]) (by simp [results, Try.results27, asAddr, l4]) rfl (HF.out _ _ _ hc9 (H.subm _))
  · skip
    by_cases h1 : k < 0
    · skip
      have hR : BM.caughtR ⟨3, be, bf, bd, br, es⟩ k = (⟨0, 0, 0, 0, 0, []⟩, 2) := by
        (unfold BM.caughtR BM.caught; dsimp only; repeat (first | rw [if_pos (by omega)] | rw [if_neg (by omega)]); try rfl)
      rw [hR]
      clear hR
      have HF := Lib.hid (fun W (h2 : St w0 W I) => (BPost.mk (r := (⟨0, 0, 0, 0, 0, []⟩, 2)) (n := 0) (c := 0) (A := none) rfl (Nat.le_refl _) (h2.old (s := 6) (n := 0) (A := none) (xs := []) Reads.none_) : BPost w0 I (⟨0, 0, 0, 0, 0, []⟩, 2) (.returned (.tuple #[.agg #[.int .i64 0, .int .i64 0, .int .i64 0, .int .i64 0, .int .i64 0, .slice none 0 0], .int .i64 2])) W))
      generalize BPost w0 I (⟨0, 0, 0, 0, 0, []⟩, 2) = POST at *
      go_enter Try.func27, Try.ntmps27
      clear hfold
      skip
      go_wp2_with (first | (go_at_call 33; have h := HI.out; refine (check_st ⟨3, be, bf, bd, br, es⟩ A n c m HL.out HB.out hm hc H).mono ?_; clear H h; rintro ed wy ⟨rfl, H⟩) | (go_at_call 34; refine (node_any _ _).mono ?_; rintro ed wy ⟨rfl, rfl⟩) | (first
          | ((with_reducible refine here_load ?_); first | (refine wpList_load_st H rfl 46 _ rfl rfl row_Queue (by kernel_rfl) ?_) | (refine wpList_load_st H rfl 50 _ rfl rfl row_Answer (by kernel_rfl) ?_) | (refine wpList_load_st H rfl 37 _ rfl rfl row_Event (by kernel_rfl) ?_) | (refine wpList_load_st H rfl 27 _ rfl rfl row_Berth (by kernel_rfl) ?_) | (refine wpList_load1_st H rfl 3 _ rfl rfl sc_int (by rfl) ?_) | (refine wpList_load1_stG H (by rfl) 3 _ rfl rfl sc_int (by rfl) ?_) | (refine wpList_load1_st H rfl 4 _ rfl rfl sc_bool (by rfl) ?_) | (refine wpList_load1_stG H (by rfl) 4 _ rfl rfl sc_bool (by rfl) ?_) | (refine wpList_load1_st H rfl 30 _ rfl rfl sc_Errno (by rfl) ?_) | (refine wpList_load1_stG H (by rfl) 30 _ rfl rfl sc_Errno (by rfl) ?_) | (refine wpList_load1_st H rfl 25 _ rfl rfl sc_Evs (by rfl) ?_) | (refine wpList_load1_stG H (by rfl) 25 _ rfl rfl sc_Evs (by rfl) ?_))
          | ((with_reducible refine here_store ?_); first | (refine wpList_store_st H rfl 46 _ _ rfl rfl rfl (by kernel_rfl) (by rfl) (by kernel_rfl) ?_; clear H; intro wx H) | (refine wpList_store_st H rfl 50 _ _ rfl rfl rfl (by kernel_rfl) (by rfl) (by kernel_rfl) ?_; clear H; intro wx H) | (refine wpList_store_st H rfl 37 _ _ rfl rfl rfl (by kernel_rfl) (by rfl) (by kernel_rfl) ?_; clear H; intro wx H) | (refine wpList_store_st H rfl 27 _ _ rfl rfl rfl (by kernel_rfl) (by rfl) (by kernel_rfl) ?_; clear H; intro wx H) | (refine wpList_store1_st H rfl 3 _ _ rfl rfl _ rfl (by rfl) s1_int (by rfl) (by rfl) ?_; clear H; intro wx H) | (refine wpList_store1_st H rfl 4 _ _ rfl rfl _ rfl (by rfl) s1_bool (by rfl) (by rfl) ?_; clear H; intro wx H) | (refine wpList_store1_st H rfl 30 _ _ rfl rfl _ rfl (by rfl) s1_Errno (by rfl) (by rfl) ?_; clear H; intro wx H) | (refine wpList_store1_st H rfl 25 _ _ rfl rfl _ rfl (by rfl) s1_Evs (by rfl) (by rfl) ?_; clear H; intro wx H))
          | ((with_reducible refine here_alloc ?_); first | (refine wpList_alloc_st H rfl 46 rfl _ q_zero ?_; clear H; intro gq wx H) | (refine wpList_alloc_st H rfl 50 rfl _ ans_zero ?_; clear H; intro ga wx H) | (refine wpList_alloc_st H rfl 37 rfl _ ev_zero ?_; clear H; intro ge wx H) | (refine wpList_alloc_st H rfl 27 rfl _ ber_zero ?_; clear H; intro gr wx H))
          | ((with_reducible refine here_box ?_); first | (refine wpList_box_st H rfl _ _ rfl _ rfl ?_; clear H; intro gb wx H))))
      have l4 : (loadVar 27 ⟨gr, 0, none⟩).run Try.prog wx = .ok (.agg #[.int .i64 0, .int .i64 0, .int .i64 0, .int .i64 0, .int .i64 0, .slice none 0 0]) wx := H.loadRow 27 gr row_Berth (P := Try.prog) (by kernel_rfl)
      exact bodyPost_ret (v := .tuple #[.agg #[.int .i64 0, .int .i64 0, .int .i64 0, .int .i64 0, .int .i64 0, .slice none 0 0], .int .i64 2]) (by simp [results, Try.results27, asAddr, l4]) rfl (HF.out _ (H.subm _))
    have d1 : decide (k < 0) = false := decide_eq_false h1
    by_cases h2 : (n : Int) < k
    · have d2 := decide_eq_true h2
      have hR : BM.caughtR ⟨3, be, bf, bd, br, es⟩ k = (⟨0, 0, 0, 0, 0, []⟩, 2) := by
        (unfold BM.caughtR BM.caught; dsimp only; repeat (first | rw [if_pos (by omega)] | rw [if_neg (by omega)]); try rfl)
      rw [hR]
      clear hR
      have HF := Lib.hid (fun W (h2 : St w0 W I) => (BPost.mk (r := (⟨0, 0, 0, 0, 0, []⟩, 2)) (n := 0) (c := 0) (A := none) rfl (Nat.le_refl _) (h2.old (s := 6) (n := 0) (A := none) (xs := []) Reads.none_) : BPost w0 I (⟨0, 0, 0, 0, 0, []⟩, 2) (.returned (.tuple #[.agg #[.int .i64 0, .int .i64 0, .int .i64 0, .int .i64 0, .int .i64 0, .slice none 0 0], .int .i64 2])) W))
      generalize BPost w0 I (⟨0, 0, 0, 0, 0, []⟩, 2) = POST at *
      go_enter Try.func27, Try.ntmps27
      clear hfold
      skip
      go_wp2_with (first | (go_at_call 33; have h := HI.out; refine (check_st ⟨3, be, bf, bd, br, es⟩ A n c m HL.out HB.out hm hc H).mono ?_; clear H h; rintro ed wy ⟨rfl, H⟩) | (go_at_call 34; refine (node_any _ _).mono ?_; rintro ed wy ⟨rfl, rfl⟩) | (first
          | ((with_reducible refine here_load ?_); first | (refine wpList_load_st H rfl 46 _ rfl rfl row_Queue (by kernel_rfl) ?_) | (refine wpList_load_st H rfl 50 _ rfl rfl row_Answer (by kernel_rfl) ?_) | (refine wpList_load_st H rfl 37 _ rfl rfl row_Event (by kernel_rfl) ?_) | (refine wpList_load_st H rfl 27 _ rfl rfl row_Berth (by kernel_rfl) ?_) | (refine wpList_load1_st H rfl 3 _ rfl rfl sc_int (by rfl) ?_) | (refine wpList_load1_stG H (by rfl) 3 _ rfl rfl sc_int (by rfl) ?_) | (refine wpList_load1_st H rfl 4 _ rfl rfl sc_bool (by rfl) ?_) | (refine wpList_load1_stG H (by rfl) 4 _ rfl rfl sc_bool (by rfl) ?_) | (refine wpList_load1_st H rfl 30 _ rfl rfl sc_Errno (by rfl) ?_) | (refine wpList_load1_stG H (by rfl) 30 _ rfl rfl sc_Errno (by rfl) ?_) | (refine wpList_load1_st H rfl 25 _ rfl rfl sc_Evs (by rfl) ?_) | (refine wpList_load1_stG H (by rfl) 25 _ rfl rfl sc_Evs (by rfl) ?_))
          | ((with_reducible refine here_store ?_); first | (refine wpList_store_st H rfl 46 _ _ rfl rfl rfl (by kernel_rfl) (by rfl) (by kernel_rfl) ?_; clear H; intro wx H) | (refine wpList_store_st H rfl 50 _ _ rfl rfl rfl (by kernel_rfl) (by rfl) (by kernel_rfl) ?_; clear H; intro wx H) | (refine wpList_store_st H rfl 37 _ _ rfl rfl rfl (by kernel_rfl) (by rfl) (by kernel_rfl) ?_; clear H; intro wx H) | (refine wpList_store_st H rfl 27 _ _ rfl rfl rfl (by kernel_rfl) (by rfl) (by kernel_rfl) ?_; clear H; intro wx H) | (refine wpList_store1_st H rfl 3 _ _ rfl rfl _ rfl (by rfl) s1_int (by rfl) (by rfl) ?_; clear H; intro wx H) | (refine wpList_store1_st H rfl 4 _ _ rfl rfl _ rfl (by rfl) s1_bool (by rfl) (by rfl) ?_; clear H; intro wx H) | (refine wpList_store1_st H rfl 30 _ _ rfl rfl _ rfl (by rfl) s1_Errno (by rfl) (by rfl) ?_; clear H; intro wx H) | (refine wpList_store1_st H rfl 25 _ _ rfl rfl _ rfl (by rfl) s1_Evs (by rfl) (by rfl) ?_; clear H; intro wx H))
          | ((with_reducible refine here_alloc ?_); first | (refine wpList_alloc_st H rfl 46 rfl _ q_zero ?_; clear H; intro gq wx H) | (refine wpList_alloc_st H rfl 50 rfl _ ans_zero ?_; clear H; intro ga wx H) | (refine wpList_alloc_st H rfl 37 rfl _ ev_zero ?_; clear H; intro ge wx H) | (refine wpList_alloc_st H rfl 27 rfl _ ber_zero ?_; clear H; intro gr wx H))
          | ((with_reducible refine here_box ?_); first | (refine wpList_box_st H rfl _ _ rfl _ rfl ?_; clear H; intro gb wx H))))
      have l4 : (loadVar 27 ⟨gr, 0, none⟩).run Try.prog wx = .ok (.agg #[.int .i64 0, .int .i64 0, .int .i64 0, .int .i64 0, .int .i64 0, .slice none 0 0]) wx := H.loadRow 27 gr row_Berth (P := Try.prog) (by kernel_rfl)
      exact bodyPost_ret (v := .tuple #[.agg #[.int .i64 0, .int .i64 0, .int .i64 0, .int .i64 0, .int .i64 0, .slice none 0 0], .int .i64 2]) (by simp [results, Try.results27, asAddr, l4]) rfl (HF.out _ (H.subm _))
    have d2 := decide_eq_false h2
    have hR : BM.caughtR ⟨3, be, bf, bd, br, es⟩ k = (⟨3, be, bf, bd, br, es⟩, 0) := by
      (unfold BM.caughtR BM.caught; dsimp only; repeat (first | rw [if_pos (by omega)] | rw [if_neg (by omega)]); try rfl)
    rw [hR]
    clear hR
    have HF := Lib.hid (fun W A' c' (h1 : n ≤ c') (h2 : St w0 W (evIt A' es :: I)) => (BPost.mk (r := (⟨3, be, bf, bd, br, es⟩, 0)) HL.out h1 h2 : BPost w0 I (⟨3, be, bf, bd, br, es⟩, 0) (.returned (.tuple #[.agg #[.int .i64 3, .int .i64 be, .int .i64 bf, .int .i64 bd, .int .i64 br, .slice A' n c'], .int .i64 0])) W))
    generalize BPost w0 I (⟨3, be, bf, bd, br, es⟩, 0) = POST at *
    go_enter Try.func27, Try.ntmps27
    clear hfold
    skip
    go_wp2_with (first | (go_at_call 33; have h := HI.out; refine (check_st ⟨3, be, bf, bd, br, es⟩ A n c m HL.out HB.out hm hc H).mono ?_; clear H h; rintro ed wy ⟨rfl, H⟩) | (go_at_call 34; refine (node_any _ _).mono ?_; rintro ed wy ⟨rfl, rfl⟩) | (go_at_call 35; have h := HI.out; refine (with_nil ⟨3, be, bf, bd, br, es⟩ A n c HL.out (by omega) hc H).mono ?_; clear H h; rintro ed wy ⟨A9, c9, rfl, hc9, H⟩) | (first
        | ((with_reducible refine here_load ?_); first | (refine wpList_load_st H rfl 46 _ rfl rfl row_Queue (by kernel_rfl) ?_) | (refine wpList_load_st H rfl 50 _ rfl rfl row_Answer (by kernel_rfl) ?_) | (refine wpList_load_st H rfl 37 _ rfl rfl row_Event (by kernel_rfl) ?_) | (refine wpList_load_st H rfl 27 _ rfl rfl row_Berth (by kernel_rfl) ?_) | (refine wpList_load1_st H rfl 3 _ rfl rfl sc_int (by rfl) ?_) | (refine wpList_load1_stG H (by rfl) 3 _ rfl rfl sc_int (by rfl) ?_) | (refine wpList_load1_st H rfl 4 _ rfl rfl sc_bool (by rfl) ?_) | (refine wpList_load1_stG H (by rfl) 4 _ rfl rfl sc_bool (by rfl) ?_) | (refine wpList_load1_st H rfl 30 _ rfl rfl sc_Errno (by rfl) ?_) | (refine wpList_load1_stG H (by rfl) 30 _ rfl rfl sc_Errno (by rfl) ?_) | (refine wpList_load1_st H rfl 25 _ rfl rfl sc_Evs (by rfl) ?_) | (refine wpList_load1_stG H (by rfl) 25 _ rfl rfl sc_Evs (by rfl) ?_))
        | ((with_reducible refine here_store ?_); first | (refine wpList_store_st H rfl 46 _ _ rfl rfl rfl (by kernel_rfl) (by rfl) (by kernel_rfl) ?_; clear H; intro wx H) | (refine wpList_store_st H rfl 50 _ _ rfl rfl rfl (by kernel_rfl) (by rfl) (by kernel_rfl) ?_; clear H; intro wx H) | (refine wpList_store_st H rfl 37 _ _ rfl rfl rfl (by kernel_rfl) (by rfl) (by kernel_rfl) ?_; clear H; intro wx H) | (refine wpList_store_st H rfl 27 _ _ rfl rfl rfl (by kernel_rfl) (by rfl) (by kernel_rfl) ?_; clear H; intro wx H) | (refine wpList_store1_st H rfl 3 _ _ rfl rfl _ rfl (by rfl) s1_int (by rfl) (by rfl) ?_; clear H; intro wx H) | (refine wpList_store1_st H rfl 4 _ _ rfl rfl _ rfl (by rfl) s1_bool (by rfl) (by rfl) ?_; clear H; intro wx H) | (refine wpList_store1_st H rfl 30 _ _ rfl rfl _ rfl (by rfl) s1_Errno (by rfl) (by rfl) ?_; clear H; intro wx H) | (refine wpList_store1_st H rfl 25 _ _ rfl rfl _ rfl (by rfl) s1_Evs (by rfl) (by rfl) ?_; clear H; intro wx H))
        | ((with_reducible refine here_alloc ?_); first | (refine wpList_alloc_st H rfl 46 rfl _ q_zero ?_; clear H; intro gq wx H) | (refine wpList_alloc_st H rfl 50 rfl _ ans_zero ?_; clear H; intro ga wx H) | (refine wpList_alloc_st H rfl 37 rfl _ ev_zero ?_; clear H; intro ge wx H) | (refine wpList_alloc_st H rfl 27 rfl _ ber_zero ?_; clear H; intro gr wx H))
        | ((with_reducible refine here_box ?_); first | (refine wpList_box_st H rfl _ _ rfl _ rfl ?_; clear H; intro gb wx H))))
    have l4 : (loadVar 27 ⟨gr, 0, none⟩).run Try.prog wx = .ok (.agg #[.int .i64 3, .int .i64 be, .int .i64 bf, .int .i64 bd, .int .i64 br, .slice A9 n c9]) wx := H.loadRow 27 gr row_Berth (P := Try.prog) (by kernel_rfl)
    exact bodyPost_ret (v := .tuple #[.agg #[.int .i64 3, .int .i64 be, .int .i64 bf, .int .i64 bd, .int .i64 br, .slice A9 n c9], .int .i64 0]) (by simp [results, Try.results27, asAddr, l4]) rfl (HF.out _ _ _ hc9 (H.subm _))
  · skip
    have hR : BM.caughtR ⟨4, be, bf, bd, br, es⟩ k = (⟨0, 0, 0, 0, 0, []⟩, 7) := by
      (unfold BM.caughtR BM.caught; dsimp only; repeat (first | rw [if_pos (by omega)] | rw [if_neg (by omega)]); try rfl)
    rw [hR]
    clear hR
    have HF := Lib.hid (fun W (h2 : St w0 W I) => (BPost.mk (r := (⟨0, 0, 0, 0, 0, []⟩, 7)) (n := 0) (c := 0) (A := none) rfl (Nat.le_refl _) (h2.old (s := 6) (n := 0) (A := none) (xs := []) Reads.none_) : BPost w0 I (⟨0, 0, 0, 0, 0, []⟩, 7) (.returned (.tuple #[.agg #[.int .i64 0, .int .i64 0, .int .i64 0, .int .i64 0, .int .i64 0, .slice none 0 0], .int .i64 7])) W))
    generalize BPost w0 I (⟨0, 0, 0, 0, 0, []⟩, 7) = POST at *
    go_enter Try.func27, Try.ntmps27
    clear hfold
    skip
    go_wp2_with (first | (go_at_call 33; have h := HI.out; refine (check_st ⟨4, be, bf, bd, br, es⟩ A n c m HL.out HB.out hm hc H).mono ?_; clear H h; rintro ed wy ⟨rfl, H⟩) | (go_at_call 34; refine (node_any _ _).mono ?_; rintro ed wy ⟨rfl, rfl⟩) | (first
        | ((with_reducible refine here_load ?_); first | (refine wpList_load_st H rfl 46 _ rfl rfl row_Queue (by kernel_rfl) ?_) | (refine wpList_load_st H rfl 50 _ rfl rfl row_Answer (by kernel_rfl) ?_) | (refine wpList_load_st H rfl 37 _ rfl rfl row_Event (by kernel_rfl) ?_) | (refine wpList_load_st H rfl 27 _ rfl rfl row_Berth (by kernel_rfl) ?_) | (refine wpList_load1_st H rfl 3 _ rfl rfl sc_int (by rfl) ?_) | (refine wpList_load1_stG H (by rfl) 3 _ rfl rfl sc_int (by rfl) ?_) | (refine wpList_load1_st H rfl 4 _ rfl rfl sc_bool (by rfl) ?_) | (refine wpList_load1_stG H (by rfl) 4 _ rfl rfl sc_bool (by rfl) ?_) | (refine wpList_load1_st H rfl 30 _ rfl rfl sc_Errno (by rfl) ?_) | (refine wpList_load1_stG H (by rfl) 30 _ rfl rfl sc_Errno (by rfl) ?_) | (refine wpList_load1_st H rfl 25 _ rfl rfl sc_Evs (by rfl) ?_) | (refine wpList_load1_stG H (by rfl) 25 _ rfl rfl sc_Evs (by rfl) ?_))
        | ((with_reducible refine here_store ?_); first | (refine wpList_store_st H rfl 46 _ _ rfl rfl rfl (by kernel_rfl) (by rfl) (by kernel_rfl) ?_; clear H; intro wx H) | (refine wpList_store_st H rfl 50 _ _ rfl rfl rfl (by kernel_rfl) (by rfl) (by kernel_rfl) ?_; clear H; intro wx H) | (refine wpList_store_st H rfl 37 _ _ rfl rfl rfl (by kernel_rfl) (by rfl) (by kernel_rfl) ?_; clear H; intro wx H) | (refine wpList_store_st H rfl 27 _ _ rfl rfl rfl (by kernel_rfl) (by rfl) (by kernel_rfl) ?_; clear H; intro wx H) | (refine wpList_store1_st H rfl 3 _ _ rfl rfl _ rfl (by rfl) s1_int (by rfl) (by rfl) ?_; clear H; intro wx H) | (refine wpList_store1_st H rfl 4 _ _ rfl rfl _ rfl (by rfl) s1_bool (by rfl) (by rfl) ?_; clear H; intro wx H) | (refine wpList_store1_st H rfl 30 _ _ rfl rfl _ rfl (by rfl) s1_Errno (by rfl) (by rfl) ?_; clear H; intro wx H) | (refine wpList_store1_st H rfl 25 _ _ rfl rfl _ rfl (by rfl) s1_Evs (by rfl) (by rfl) ?_; clear H; intro wx H))
        | ((with_reducible refine here_alloc ?_); first | (refine wpList_alloc_st H rfl 46 rfl _ q_zero ?_; clear H; intro gq wx H) | (refine wpList_alloc_st H rfl 50 rfl _ ans_zero ?_; clear H; intro ga wx H) | (refine wpList_alloc_st H rfl 37 rfl _ ev_zero ?_; clear H; intro ge wx H) | (refine wpList_alloc_st H rfl 27 rfl _ ber_zero ?_; clear H; intro gr wx H))
        | ((with_reducible refine here_box ?_); first | (refine wpList_box_st H rfl _ _ rfl _ rfl ?_; clear H; intro gb wx H))))
    have l4 : (loadVar 27 ⟨gr, 0, none⟩).run Try.prog wx = .ok (.agg #[.int .i64 0, .int .i64 0, .int .i64 0, .int .i64 0, .int .i64 0, .slice none 0 0]) wx := H.loadRow 27 gr row_Berth (P := Try.prog) (by kernel_rfl)
    exact bodyPost_ret (v := .tuple #[.agg #[.int .i64 0, .int .i64 0, .int .i64 0, .int .i64 0, .int .i64 0, .slice none 0 0], .int .i64 7]) (by simp [results, Try.results27, asAddr, l4]) rfl (HF.out _ (H.subm _))
set_option maxRecDepth 100000 in
set_option maxHeartbeats 8000000 in
theorem begin_st {w0 w : World} {I : List It} (b : BM) (A : Option Addr) (n c m : Nat) (ep fr : Int) (hl : b.es.length = n) (hb : b.Ok m) (hm : m ≤ 150) (hc : n ≤ c) (H : St w0 w I) [h : Has I (evIt A b.es)] :
    Calls Try.prog 30 #[.agg (bArr b A n c), .int .i64 ep, .int .i64 fr] w (BPost w0 I (b.beginR ep fr)) := by
  have hn : n ≤ 150 := by have := hb.len; omega
  have HI := Lib.hid h
  have HB := Lib.hid hb
  have HL := Lib.hid hl
  have HS := hb.shape
  clear h hb hl
  have hfold : bArr b A n c = #[Value.int .i64 b.role, .int .i64 b.ep, .int .i64 b.frm, .int .i64 b.dst, .int .i64 b.rounds, .slice A n c] := rfl
  rw [hfold]
  obtain ⟨r, be, bf, bd, br, es⟩ := b
  unfold BM.Shape at HS
  dsimp only at HS HB HL HI ⊢
  by_cases h1 : ep < 1
  · skip
    have hR : BM.beginR ⟨r, be, bf, bd, br, es⟩ ep fr = (⟨0, 0, 0, 0, 0, []⟩, 2) := by
      (unfold BM.beginR; dsimp only; repeat (first | rw [if_pos (by omega)] | rw [if_neg (by omega)]); try rfl)
    rw [hR]
    clear hR
    have HF := Lib.hid (fun W (h2 : St w0 W I) => (BPost.mk (r := (⟨0, 0, 0, 0, 0, []⟩, 2)) (n := 0) (c := 0) (A := none) rfl (Nat.le_refl _) (h2.old (s := 6) (n := 0) (A := none) (xs := []) Reads.none_) : BPost w0 I (⟨0, 0, 0, 0, 0, []⟩, 2) (.returned (.tuple #[.agg #[.int .i64 0, .int .i64 0, .int .i64 0, .int .i64 0, .int .i64 0, .slice none 0 0], .int .i64 2])) W))
    generalize BPost w0 I (⟨0, 0, 0, 0, 0, []⟩, 2) = POST at *
    go_enter Try.func30, Try.ntmps30
    clear hfold
    skip
    go_wp2_with (first | (go_at_call 33; have h := HI.out; refine (check_st ⟨r, be, bf, bd, br, es⟩ A n c m HL.out HB.out hm hc H).mono ?_; clear H h; rintro ed wy ⟨rfl, H⟩) | (go_at_call 34; refine (node_any _ _).mono ?_; rintro ed wy ⟨rfl, rfl⟩) | (first
        | ((with_reducible refine here_load ?_); first | (refine wpList_load_st H rfl 46 _ rfl rfl row_Queue (by kernel_rfl) ?_) | (refine wpList_load_st H rfl 50 _ rfl rfl row_Answer (by kernel_rfl) ?_) | (refine wpList_load_st H rfl 37 _ rfl rfl row_Event (by kernel_rfl) ?_) | (refine wpList_load_st H rfl 27 _ rfl rfl row_Berth (by kernel_rfl) ?_) | (refine wpList_load1_st H rfl 3 _ rfl rfl sc_int (by rfl) ?_) | (refine wpList_load1_stG H (by rfl) 3 _ rfl rfl sc_int (by rfl) ?_) | (refine wpList_load1_st H rfl 4 _ rfl rfl sc_bool (by rfl) ?_) | (refine wpList_load1_stG H (by rfl) 4 _ rfl rfl sc_bool (by rfl) ?_) | (refine wpList_load1_st H rfl 30 _ rfl rfl sc_Errno (by rfl) ?_) | (refine wpList_load1_stG H (by rfl) 30 _ rfl rfl sc_Errno (by rfl) ?_) | (refine wpList_load1_st H rfl 25 _ rfl rfl sc_Evs (by rfl) ?_) | (refine wpList_load1_stG H (by rfl) 25 _ rfl rfl sc_Evs (by rfl) ?_))
        | ((with_reducible refine here_store ?_); first | (refine wpList_store_st H rfl 46 _ _ rfl rfl rfl (by kernel_rfl) (by rfl) (by kernel_rfl) ?_; clear H; intro wx H) | (refine wpList_store_st H rfl 50 _ _ rfl rfl rfl (by kernel_rfl) (by rfl) (by kernel_rfl) ?_; clear H; intro wx H) | (refine wpList_store_st H rfl 37 _ _ rfl rfl rfl (by kernel_rfl) (by rfl) (by kernel_rfl) ?_; clear H; intro wx H) | (refine wpList_store_st H rfl 27 _ _ rfl rfl rfl (by kernel_rfl) (by rfl) (by kernel_rfl) ?_; clear H; intro wx H) | (refine wpList_store1_st H rfl 3 _ _ rfl rfl _ rfl (by rfl) s1_int (by rfl) (by rfl) ?_; clear H; intro wx H) | (refine wpList_store1_st H rfl 4 _ _ rfl rfl _ rfl (by rfl) s1_bool (by rfl) (by rfl) ?_; clear H; intro wx H) | (refine wpList_store1_st H rfl 30 _ _ rfl rfl _ rfl (by rfl) s1_Errno (by rfl) (by rfl) ?_; clear H; intro wx H) | (refine wpList_store1_st H rfl 25 _ _ rfl rfl _ rfl (by rfl) s1_Evs (by rfl) (by rfl) ?_; clear H; intro wx H))
        | ((with_reducible refine here_alloc ?_); first | (refine wpList_alloc_st H rfl 46 rfl _ q_zero ?_; clear H; intro gq wx H) | (refine wpList_alloc_st H rfl 50 rfl _ ans_zero ?_; clear H; intro ga wx H) | (refine wpList_alloc_st H rfl 37 rfl _ ev_zero ?_; clear H; intro ge wx H) | (refine wpList_alloc_st H rfl 27 rfl _ ber_zero ?_; clear H; intro gr wx H))
        | ((with_reducible refine here_box ?_); first | (refine wpList_box_st H rfl _ _ rfl _ rfl ?_; clear H; intro gb wx H))))
    have l4 : (loadVar 27 ⟨gr, 0, none⟩).run Try.prog wx = .ok (.agg #[.int .i64 0, .int .i64 0, .int .i64 0, .int .i64 0, .int .i64 0, .slice none 0 0]) wx := H.loadRow 27 gr row_Berth (P := Try.prog) (by kernel_rfl)
    exact bodyPost_ret (v := .tuple #[.agg #[.int .i64 0, .int .i64 0, .int .i64 0, .int .i64 0, .int .i64 0, .slice none 0 0], .int .i64 2]) (by simp [results, Try.results30, asAddr, l4]) rfl (HF.out _ (H.subm _))
  by_cases h2 : 1048576 < ep
  · skip
    have hR : BM.beginR ⟨r, be, bf, bd, br, es⟩ ep fr = (⟨0, 0, 0, 0, 0, []⟩, 2) := by
      (unfold BM.beginR; dsimp only; repeat (first | rw [if_pos (by omega)] | rw [if_neg (by omega)]); try rfl)
    rw [hR]
    clear hR
    have HF := Lib.hid (fun W (h2 : St w0 W I) => (BPost.mk (r := (⟨0, 0, 0, 0, 0, []⟩, 2)) (n := 0) (c := 0) (A := none) rfl (Nat.le_refl _) (h2.old (s := 6) (n := 0) (A := none) (xs := []) Reads.none_) : BPost w0 I (⟨0, 0, 0, 0, 0, []⟩, 2) (.returned (.tuple #[.agg #[.int .i64 0, .int .i64 0, .int .i64 0, .int .i64 0, .int .i64 0, .slice none 0 0], .int .i64 2])) W))
    generalize BPost w0 I (⟨0, 0, 0, 0, 0, []⟩, 2) = POST at *
    go_enter Try.func30, Try.ntmps30
    clear hfold
    skip
    go_wp2_with (first | (go_at_call 33; have h := HI.out; refine (check_st ⟨r, be, bf, bd, br, es⟩ A n c m HL.out HB.out hm hc H).mono ?_; clear H h; rintro ed wy ⟨rfl, H⟩) | (go_at_call 34; refine (node_any _ _).mono ?_; rintro ed wy ⟨rfl, rfl⟩) | (first
        | ((with_reducible refine here_load ?_); first | (refine wpList_load_st H rfl 46 _ rfl rfl row_Queue (by kernel_rfl) ?_) | (refine wpList_load_st H rfl 50 _ rfl rfl row_Answer (by kernel_rfl) ?_) | (refine wpList_load_st H rfl 37 _ rfl rfl row_Event (by kernel_rfl) ?_) | (refine wpList_load_st H rfl 27 _ rfl rfl row_Berth (by kernel_rfl) ?_) | (refine wpList_load1_st H rfl 3 _ rfl rfl sc_int (by rfl) ?_) | (refine wpList_load1_stG H (by rfl) 3 _ rfl rfl sc_int (by rfl) ?_) | (refine wpList_load1_st H rfl 4 _ rfl rfl sc_bool (by rfl) ?_) | (refine wpList_load1_stG H (by rfl) 4 _ rfl rfl sc_bool (by rfl) ?_) | (refine wpList_load1_st H rfl 30 _ rfl rfl sc_Errno (by rfl) ?_) | (refine wpList_load1_stG H (by rfl) 30 _ rfl rfl sc_Errno (by rfl) ?_) | (refine wpList_load1_st H rfl 25 _ rfl rfl sc_Evs (by rfl) ?_) | (refine wpList_load1_stG H (by rfl) 25 _ rfl rfl sc_Evs (by rfl) ?_))
        | ((with_reducible refine here_store ?_); first | (refine wpList_store_st H rfl 46 _ _ rfl rfl rfl (by kernel_rfl) (by rfl) (by kernel_rfl) ?_; clear H; intro wx H) | (refine wpList_store_st H rfl 50 _ _ rfl rfl rfl (by kernel_rfl) (by rfl) (by kernel_rfl) ?_; clear H; intro wx H) | (refine wpList_store_st H rfl 37 _ _ rfl rfl rfl (by kernel_rfl) (by rfl) (by kernel_rfl) ?_; clear H; intro wx H) | (refine wpList_store_st H rfl 27 _ _ rfl rfl rfl (by kernel_rfl) (by rfl) (by kernel_rfl) ?_; clear H; intro wx H) | (refine wpList_store1_st H rfl 3 _ _ rfl rfl _ rfl (by rfl) s1_int (by rfl) (by rfl) ?_; clear H; intro wx H) | (refine wpList_store1_st H rfl 4 _ _ rfl rfl _ rfl (by rfl) s1_bool (by rfl) (by rfl) ?_; clear H; intro wx H) | (refine wpList_store1_st H rfl 30 _ _ rfl rfl _ rfl (by rfl) s1_Errno (by rfl) (by rfl) ?_; clear H; intro wx H) | (refine wpList_store1_st H rfl 25 _ _ rfl rfl _ rfl (by rfl) s1_Evs (by rfl) (by rfl) ?_; clear H; intro wx H))
        | ((with_reducible refine here_alloc ?_); first | (refine wpList_alloc_st H rfl 46 rfl _ q_zero ?_; clear H; intro gq wx H) | (refine wpList_alloc_st H rfl 50 rfl _ ans_zero ?_; clear H; intro ga wx H) | (refine wpList_alloc_st H rfl 37 rfl _ ev_zero ?_; clear H; intro ge wx H) | (refine wpList_alloc_st H rfl 27 rfl _ ber_zero ?_; clear H; intro gr wx H))
        | ((with_reducible refine here_box ?_); first | (refine wpList_box_st H rfl _ _ rfl _ rfl ?_; clear H; intro gb wx H))))
    have l4 : (loadVar 27 ⟨gr, 0, none⟩).run Try.prog wx = .ok (.agg #[.int .i64 0, .int .i64 0, .int .i64 0, .int .i64 0, .int .i64 0, .slice none 0 0]) wx := H.loadRow 27 gr row_Berth (P := Try.prog) (by kernel_rfl)
    exact bodyPost_ret (v := .tuple #[.agg #[.int .i64 0, .int .i64 0, .int .i64 0, .int .i64 0, .int .i64 0, .slice none 0 0], .int .i64 2]) (by simp [results, Try.results30, asAddr, l4]) rfl (HF.out _ (H.subm _))
  by_cases h3 : 0 ≤ fr ∧ fr < 5
  · have h3d := decide_eq_true h3
    have HR : r = 0 ∨ r = 1 ∨ r = 2 ∨ r = 3 ∨ r = 4 := by omega
    rcases HR with rfl | rfl | rfl | rfl | rfl
    · skip
      by_cases h4 : ep ≤ be
      · skip
        have hR : BM.beginR ⟨0, be, bf, bd, br, es⟩ ep fr = (⟨0, 0, 0, 0, 0, []⟩, 15) := by
          (unfold BM.beginR; dsimp only; repeat (first | rw [if_pos (by omega)] | rw [if_neg (by omega)]); try rfl)
        rw [hR]
        clear hR
        have HF := Lib.hid (fun W (h2 : St w0 W I) => (BPost.mk (r := (⟨0, 0, 0, 0, 0, []⟩, 15)) (n := 0) (c := 0) (A := none) rfl (Nat.le_refl _) (h2.old (s := 6) (n := 0) (A := none) (xs := []) Reads.none_) : BPost w0 I (⟨0, 0, 0, 0, 0, []⟩, 15) (.returned (.tuple #[.agg #[.int .i64 0, .int .i64 0, .int .i64 0, .int .i64 0, .int .i64 0, .slice none 0 0], .int .i64 15])) W))
        generalize BPost w0 I (⟨0, 0, 0, 0, 0, []⟩, 15) = POST at *
        go_enter Try.func30, Try.ntmps30
        clear hfold
        skip
        go_wp2_with (first | (go_at_call 33; have h := HI.out; refine (check_st ⟨0, be, bf, bd, br, es⟩ A n c m HL.out HB.out hm hc H).mono ?_; clear H h; rintro ed wy ⟨rfl, H⟩) | (go_at_call 34; refine (node_any _ _).mono ?_; rintro ed wy ⟨rfl, rfl⟩) | (first
            | ((with_reducible refine here_load ?_); first | (refine wpList_load_st H rfl 46 _ rfl rfl row_Queue (by kernel_rfl) ?_) | (refine wpList_load_st H rfl 50 _ rfl rfl row_Answer (by kernel_rfl) ?_) | (refine wpList_load_st H rfl 37 _ rfl rfl row_Event (by kernel_rfl) ?_) | (refine wpList_load_st H rfl 27 _ rfl rfl row_Berth (by kernel_rfl) ?_) | (refine wpList_load1_st H rfl 3 _ rfl rfl sc_int (by rfl) ?_) | (refine wpList_load1_stG H (by rfl) 3 _ rfl rfl sc_int (by rfl) ?_) | (refine wpList_load1_st H rfl 4 _ rfl rfl sc_bool (by rfl) ?_) | (refine wpList_load1_stG H (by rfl) 4 _ rfl rfl sc_bool (by rfl) ?_) | (refine wpList_load1_st H rfl 30 _ rfl rfl sc_Errno (by rfl) ?_) | (refine wpList_load1_stG H (by rfl) 30 _ rfl rfl sc_Errno (by rfl) ?_) | (refine wpList_load1_st H rfl 25 _ rfl rfl sc_Evs (by rfl) ?_) | (refine wpList_load1_stG H (by rfl) 25 _ rfl rfl sc_Evs (by rfl) ?_))
            | ((with_reducible refine here_store ?_); first | (refine wpList_store_st H rfl 46 _ _ rfl rfl rfl (by kernel_rfl) (by rfl) (by kernel_rfl) ?_; clear H; intro wx H) | (refine wpList_store_st H rfl 50 _ _ rfl rfl rfl (by kernel_rfl) (by rfl) (by kernel_rfl) ?_; clear H; intro wx H) | (refine wpList_store_st H rfl 37 _ _ rfl rfl rfl (by kernel_rfl) (by rfl) (by kernel_rfl) ?_; clear H; intro wx H) | (refine wpList_store_st H rfl 27 _ _ rfl rfl rfl (by kernel_rfl) (by rfl) (by kernel_rfl) ?_; clear H; intro wx H) | (refine wpList_store1_st H rfl 3 _ _ rfl rfl _ rfl (by rfl) s1_int (by rfl) (by rfl) ?_; clear H; intro wx H) | (refine wpList_store1_st H rfl 4 _ _ rfl rfl _ rfl (by rfl) s1_bool (by rfl) (by rfl) ?_; clear H; intro wx H) | (refine wpList_store1_st H rfl 30 _ _ rfl rfl _ rfl (by rfl) s1_Errno (by rfl) (by rfl) ?_; clear H; intro wx H) | (refine wpList_store1_st H rfl 25 _ _ rfl rfl _ rfl (by rfl) s1_Evs (by rfl) (by rfl) ?_; clear H; intro wx H))
            | ((with_reducible refine here_alloc ?_); first | (refine wpList_alloc_st H rfl 46 rfl _ q_zero ?_; clear H; intro gq wx H) | (refine wpList_alloc_st H rfl 50 rfl _ ans_zero ?_; clear H; intro ga wx H) | (refine wpList_alloc_st H rfl 37 rfl _ ev_zero ?_; clear H; intro ge wx H) | (refine wpList_alloc_st H rfl 27 rfl _ ber_zero ?_; clear H; intro gr wx H))
            | ((with_reducible refine here_box ?_); first | (refine wpList_box_st H rfl _ _ rfl _ rfl ?_; clear H; intro gb wx H))))
        have l4 : (loadVar 27 ⟨gr, 0, none⟩).run Try.prog wx = .ok (.agg #[.int .i64 0, .int .i64 0, .int .i64 0, .int .i64 0, .int .i64 0, .slice none 0 0]) wx := H.loadRow 27 gr row_Berth (P := Try.prog) (by kernel_rfl)
        exact bodyPost_ret (v := .tuple #[.agg #[.int .i64 0, .int .i64 0, .int .i64 0, .int .i64 0, .int .i64 0, .slice none 0 0], .int .i64 15]) (by simp [results, Try.results30, asAddr, l4]) rfl (HF.out _ (H.subm _))
      · skip
        have hR : BM.beginR ⟨0, be, bf, bd, br, es⟩ ep fr = (⟨4, ep, fr, 0, 0, []⟩, 0) := by
          (unfold BM.beginR; dsimp only; repeat (first | rw [if_pos (by omega)] | rw [if_neg (by omega)]); try rfl)
        rw [hR]
        clear hR
        have HF := Lib.hid (fun W (h2 : St w0 W I) => (BPost.mk (r := (⟨4, ep, fr, 0, 0, []⟩, 0)) (n := 0) (c := 0) (A := none) rfl (Nat.le_refl _) (h2.old (s := 6) (n := 0) (A := none) (xs := []) Reads.none_) : BPost w0 I (⟨4, ep, fr, 0, 0, []⟩, 0) (.returned (.tuple #[.agg #[.int .i64 4, .int .i64 ep, .int .i64 fr, .int .i64 0, .int .i64 0, .slice none 0 0], .int .i64 0])) W))
        generalize BPost w0 I (⟨4, ep, fr, 0, 0, []⟩, 0) = POST at *
        go_enter Try.func30, Try.ntmps30
        clear hfold
        skip
        go_wp2_with (first | (go_at_call 33; have h := HI.out; refine (check_st ⟨0, be, bf, bd, br, es⟩ A n c m HL.out HB.out hm hc H).mono ?_; clear H h; rintro ed wy ⟨rfl, H⟩) | (go_at_call 34; refine (node_any _ _).mono ?_; rintro ed wy ⟨rfl, rfl⟩) | (first
            | ((with_reducible refine here_load ?_); first | (refine wpList_load_st H rfl 46 _ rfl rfl row_Queue (by kernel_rfl) ?_) | (refine wpList_load_st H rfl 50 _ rfl rfl row_Answer (by kernel_rfl) ?_) | (refine wpList_load_st H rfl 37 _ rfl rfl row_Event (by kernel_rfl) ?_) | (refine wpList_load_st H rfl 27 _ rfl rfl row_Berth (by kernel_rfl) ?_) | (refine wpList_load1_st H rfl 3 _ rfl rfl sc_int (by rfl) ?_) | (refine wpList_load1_stG H (by rfl) 3 _ rfl rfl sc_int (by rfl) ?_) | (refine wpList_load1_st H rfl 4 _ rfl rfl sc_bool (by rfl) ?_) | (refine wpList_load1_stG H (by rfl) 4 _ rfl rfl sc_bool (by rfl) ?_) | (refine wpList_load1_st H rfl 30 _ rfl rfl sc_Errno (by rfl) ?_) | (refine wpList_load1_stG H (by rfl) 30 _ rfl rfl sc_Errno (by rfl) ?_) | (refine wpList_load1_st H rfl 25 _ rfl rfl sc_Evs (by rfl) ?_) | (refine wpList_load1_stG H (by rfl) 25 _ rfl rfl sc_Evs (by rfl) ?_))
            | ((with_reducible refine here_store ?_); first | (refine wpList_store_st H rfl 46 _ _ rfl rfl rfl (by kernel_rfl) (by rfl) (by kernel_rfl) ?_; clear H; intro wx H) | (refine wpList_store_st H rfl 50 _ _ rfl rfl rfl (by kernel_rfl) (by rfl) (by kernel_rfl) ?_; clear H; intro wx H) | (refine wpList_store_st H rfl 37 _ _ rfl rfl rfl (by kernel_rfl) (by rfl) (by kernel_rfl) ?_; clear H; intro wx H) | (refine wpList_store_st H rfl 27 _ _ rfl rfl rfl (by kernel_rfl) (by rfl) (by kernel_rfl) ?_; clear H; intro wx H) | (refine wpList_store1_st H rfl 3 _ _ rfl rfl _ rfl (by rfl) s1_int (by rfl) (by rfl) ?_; clear H; intro wx H) | (refine wpList_store1_st H rfl 4 _ _ rfl rfl _ rfl (by rfl) s1_bool (by rfl) (by rfl) ?_; clear H; intro wx H) | (refine wpList_store1_st H rfl 30 _ _ rfl rfl _ rfl (by rfl) s1_Errno (by rfl) (by rfl) ?_; clear H; intro wx H) | (refine wpList_store1_st H rfl 25 _ _ rfl rfl _ rfl (by rfl) s1_Evs (by rfl) (by rfl) ?_; clear H; intro wx H))
            | ((with_reducible refine here_alloc ?_); first | (refine wpList_alloc_st H rfl 46 rfl _ q_zero ?_; clear H; intro gq wx H) | (refine wpList_alloc_st H rfl 50 rfl _ ans_zero ?_; clear H; intro ga wx H) | (refine wpList_alloc_st H rfl 37 rfl _ ev_zero ?_; clear H; intro ge wx H) | (refine wpList_alloc_st H rfl 27 rfl _ ber_zero ?_; clear H; intro gr wx H))
            | ((with_reducible refine here_box ?_); first | (refine wpList_box_st H rfl _ _ rfl _ rfl ?_; clear H; intro gb wx H))))
        have l4 : (loadVar 27 ⟨gr, 0, none⟩).run Try.prog wx = .ok (.agg #[.int .i64 4, .int .i64 ep, .int .i64 fr, .int .i64 0, .int .i64 0, .slice none 0 0]) wx := H.loadRow 27 gr row_Berth (P := Try.prog) (by kernel_rfl)
        exact bodyPost_ret (v := .tuple #[.agg #[.int .i64 4, .int .i64 ep, .int .i64 fr, .int .i64 0, .int .i64 0, .slice none 0 0], .int .i64 0]) (by simp [results, Try.results30, asAddr, l4]) rfl (HF.out _ (H.subm _))
    · skip
      have hR : BM.beginR ⟨1, be, bf, bd, br, es⟩ ep fr = (⟨0, 0, 0, 0, 0, []⟩, 8) := by
        (unfold BM.beginR; dsimp only; repeat (first | rw [if_pos (by omega)] | rw [if_neg (by omega)]); try rfl)
      rw [hR]
      clear hR
      have HF := Lib.hid (fun W (h2 : St w0 W I) => (BPost.mk (r := (⟨0, 0, 0, 0, 0, []⟩, 8)) (n := 0) (c := 0) (A := none) rfl (Nat.le_refl _) (h2.old (s := 6) (n := 0) (A := none) (xs := []) Reads.none_) : BPost w0 I (⟨0, 0, 0, 0, 0, []⟩, 8) (.returned (.tuple #[.agg #[.int .i64 0, .int .i64 0, .int .i64 0, .int .i64 0, .int .i64 0, .slice none 0 0], .int .i64 8])) W))
      generalize BPost w0 I (⟨0, 0, 0, 0, 0, []⟩, 8) = POST at *
      go_enter Try.func30, Try.ntmps30
      clear hfold
      skip
      go_wp2_with (first | (go_at_call 33; have h := HI.out; refine (check_st ⟨1, be, bf, bd, br, es⟩ A n c m HL.out HB.out hm hc H).mono ?_; clear H h; rintro ed wy ⟨rfl, H⟩) | (go_at_call 34; refine (node_any _ _).mono ?_; rintro ed wy ⟨rfl, rfl⟩) | (first
          | ((with_reducible refine here_load ?_); first | (refine wpList_load_st H rfl 46 _ rfl rfl row_Queue (by kernel_rfl) ?_) | (refine wpList_load_st H rfl 50 _ rfl rfl row_Answer (by kernel_rfl) ?_) | (refine wpList_load_st H rfl 37 _ rfl rfl row_Event (by kernel_rfl) ?_) | (refine wpList_load_st H rfl 27 _ rfl rfl row_Berth (by kernel_rfl) ?_) | (refine wpList_load1_st H rfl 3 _ rfl rfl sc_int (by rfl) ?_) | (refine wpList_load1_stG H (by rfl) 3 _ rfl rfl sc_int (by rfl) ?_) | (refine wpList_load1_st H rfl 4 _ rfl rfl sc_bool (by rfl) ?_) | (refine wpList_load1_stG H (by rfl) 4 _ rfl rfl sc_bool (by rfl) ?_) | (refine wpList_load1_st H rfl 30 _ rfl rfl sc_Errno (by rfl) ?_) | (refine wpList_load1_stG H (by rfl) 30 _ rfl rfl sc_Errno (by rfl) ?_) | (refine wpList_load1_st H rfl 25 _ rfl rfl sc_Evs (by rfl) ?_) | (refine wpList_load1_stG H (by rfl) 25 _ rfl rfl sc_Evs (by rfl) ?_))
          | ((with_reducible refine here_store ?_); first | (refine wpList_store_st H rfl 46 _ _ rfl rfl rfl (by kernel_rfl) (by rfl) (by kernel_rfl) ?_; clear H; intro wx H) | (refine wpList_store_st H rfl 50 _ _ rfl rfl rfl (by kernel_rfl) (by rfl) (by kernel_rfl) ?_; clear H; intro wx H) | (refine wpList_store_st H rfl 37 _ _ rfl rfl rfl (by kernel_rfl) (by rfl) (by kernel_rfl) ?_; clear H; intro wx H) | (refine wpList_store_st H rfl 27 _ _ rfl rfl rfl (by kernel_rfl) (by rfl) (by kernel_rfl) ?_; clear H; intro wx H) | (refine wpList_store1_st H rfl 3 _ _ rfl rfl _ rfl (by rfl) s1_int (by rfl) (by rfl) ?_; clear H; intro wx H) | (refine wpList_store1_st H rfl 4 _ _ rfl rfl _ rfl (by rfl) s1_bool (by rfl) (by rfl) ?_; clear H; intro wx H) | (refine wpList_store1_st H rfl 30 _ _ rfl rfl _ rfl (by rfl) s1_Errno (by rfl) (by rfl) ?_; clear H; intro wx H) | (refine wpList_store1_st H rfl 25 _ _ rfl rfl _ rfl (by rfl) s1_Evs (by rfl) (by rfl) ?_; clear H; intro wx H))
          | ((with_reducible refine here_alloc ?_); first | (refine wpList_alloc_st H rfl 46 rfl _ q_zero ?_; clear H; intro gq wx H) | (refine wpList_alloc_st H rfl 50 rfl _ ans_zero ?_; clear H; intro ga wx H) | (refine wpList_alloc_st H rfl 37 rfl _ ev_zero ?_; clear H; intro ge wx H) | (refine wpList_alloc_st H rfl 27 rfl _ ber_zero ?_; clear H; intro gr wx H))
          | ((with_reducible refine here_box ?_); first | (refine wpList_box_st H rfl _ _ rfl _ rfl ?_; clear H; intro gb wx H))))
      have l4 : (loadVar 27 ⟨gr, 0, none⟩).run Try.prog wx = .ok (.agg #[.int .i64 0, .int .i64 0, .int .i64 0, .int .i64 0, .int .i64 0, .slice none 0 0]) wx := H.loadRow 27 gr row_Berth (P := Try.prog) (by kernel_rfl)
      exact bodyPost_ret (v := .tuple #[.agg #[.int .i64 0, .int .i64 0, .int .i64 0, .int .i64 0, .int .i64 0, .slice none 0 0], .int .i64 8]) (by simp [results, Try.results30, asAddr, l4]) rfl (HF.out _ (H.subm _))
    · skip
      have hR : BM.beginR ⟨2, be, bf, bd, br, es⟩ ep fr = (⟨0, 0, 0, 0, 0, []⟩, 8) := by
        (unfold BM.beginR; dsimp only; repeat (first | rw [if_pos (by omega)] | rw [if_neg (by omega)]); try rfl)
      rw [hR]
      clear hR
      have HF := Lib.hid (fun W (h2 : St w0 W I) => (BPost.mk (r := (⟨0, 0, 0, 0, 0, []⟩, 8)) (n := 0) (c := 0) (A := none) rfl (Nat.le_refl _) (h2.old (s := 6) (n := 0) (A := none) (xs := []) Reads.none_) : BPost w0 I (⟨0, 0, 0, 0, 0, []⟩, 8) (.returned (.tuple #[.agg #[.int .i64 0, .int .i64 0, .int .i64 0, .int .i64 0, .int .i64 0, .slice none 0 0], .int .i64 8])) W))
      generalize BPost w0 I (⟨0, 0, 0, 0, 0, []⟩, 8) = POST at *
      go_enter Try.func30, Try.ntmps30
      clear hfold
      skip
      go_wp2_with (first | (go_at_call 33; have h := HI.out; refine (check_st ⟨2, be, bf, bd, br, es⟩ A n c m HL.out HB.out hm hc H).mono ?_; clear H h; rintro ed wy ⟨rfl, H⟩) | (go_at_call 34; refine (node_any _ _).mono ?_; rintro ed wy ⟨rfl, rfl⟩) | (first
          | ((with_reducible refine here_load ?_); first | (refine wpList_load_st H rfl 46 _ rfl rfl row_Queue (by kernel_rfl) ?_) | (refine wpList_load_st H rfl 50 _ rfl rfl row_Answer (by kernel_rfl) ?_) | (refine wpList_load_st H rfl 37 _ rfl rfl row_Event (by kernel_rfl) ?_) | (refine wpList_load_st H rfl 27 _ rfl rfl row_Berth (by kernel_rfl) ?_) | (refine wpList_load1_st H rfl 3 _ rfl rfl sc_int (by rfl) ?_) | (refine wpList_load1_stG H (by rfl) 3 _ rfl rfl sc_int (by rfl) ?_) | (refine wpList_load1_st H rfl 4 _ rfl rfl sc_bool (by rfl) ?_) | (refine wpList_load1_stG H (by rfl) 4 _ rfl rfl sc_bool (by rfl) ?_) | (refine wpList_load1_st H rfl 30 _ rfl rfl sc_Errno (by rfl) ?_) | (refine wpList_load1_stG H (by rfl) 30 _ rfl rfl sc_Errno (by rfl) ?_) | (refine wpList_load1_st H rfl 25 _ rfl rfl sc_Evs (by rfl) ?_) | (refine wpList_load1_stG H (by rfl) 25 _ rfl rfl sc_Evs (by rfl) ?_))
          | ((with_reducible refine here_store ?_); first | (refine wpList_store_st H rfl 46 _ _ rfl rfl rfl (by kernel_rfl) (by rfl) (by kernel_rfl) ?_; clear H; intro wx H) | (refine wpList_store_st H rfl 50 _ _ rfl rfl rfl (by kernel_rfl) (by rfl) (by kernel_rfl) ?_; clear H; intro wx H) | (refine wpList_store_st H rfl 37 _ _ rfl rfl rfl (by kernel_rfl) (by rfl) (by kernel_rfl) ?_; clear H; intro wx H) | (refine wpList_store_st H rfl 27 _ _ rfl rfl rfl (by kernel_rfl) (by rfl) (by kernel_rfl) ?_; clear H; intro wx H) | (refine wpList_store1_st H rfl 3 _ _ rfl rfl _ rfl (by rfl) s1_int (by rfl) (by rfl) ?_; clear H; intro wx H) | (refine wpList_store1_st H rfl 4 _ _ rfl rfl _ rfl (by rfl) s1_bool (by rfl) (by rfl) ?_; clear H; intro wx H) | (refine wpList_store1_st H rfl 30 _ _ rfl rfl _ rfl (by rfl) s1_Errno (by rfl) (by rfl) ?_; clear H; intro wx H) | (refine wpList_store1_st H rfl 25 _ _ rfl rfl _ rfl (by rfl) s1_Evs (by rfl) (by rfl) ?_; clear H; intro wx H))
          | ((with_reducible refine here_alloc ?_); first | (refine wpList_alloc_st H rfl 46 rfl _ q_zero ?_; clear H; intro gq wx H) | (refine wpList_alloc_st H rfl 50 rfl _ ans_zero ?_; clear H; intro ga wx H) | (refine wpList_alloc_st H rfl 37 rfl _ ev_zero ?_; clear H; intro ge wx H) | (refine wpList_alloc_st H rfl 27 rfl _ ber_zero ?_; clear H; intro gr wx H))
          | ((with_reducible refine here_box ?_); first | (refine wpList_box_st H rfl _ _ rfl _ rfl ?_; clear H; intro gb wx H))))
      have l4 : (loadVar 27 ⟨gr, 0, none⟩).run Try.prog wx = .ok (.agg #[.int .i64 0, .int .i64 0, .int .i64 0, .int .i64 0, .int .i64 0, .slice none 0 0]) wx := H.loadRow 27 gr row_Berth (P := Try.prog) (by kernel_rfl)
      exact bodyPost_ret (v := .tuple #[.agg #[.int .i64 0, .int .i64 0, .int .i64 0, .int .i64 0, .int .i64 0, .slice none 0 0], .int .i64 8]) (by simp [results, Try.results30, asAddr, l4]) rfl (HF.out _ (H.subm _))
    · skip
      have hR : BM.beginR ⟨3, be, bf, bd, br, es⟩ ep fr = (⟨0, 0, 0, 0, 0, []⟩, 8) := by
        (unfold BM.beginR; dsimp only; repeat (first | rw [if_pos (by omega)] | rw [if_neg (by omega)]); try rfl)
      rw [hR]
      clear hR
      have HF := Lib.hid (fun W (h2 : St w0 W I) => (BPost.mk (r := (⟨0, 0, 0, 0, 0, []⟩, 8)) (n := 0) (c := 0) (A := none) rfl (Nat.le_refl _) (h2.old (s := 6) (n := 0) (A := none) (xs := []) Reads.none_) : BPost w0 I (⟨0, 0, 0, 0, 0, []⟩, 8) (.returned (.tuple #[.agg #[.int .i64 0, .int .i64 0, .int .i64 0, .int .i64 0, .int .i64 0, .slice none 0 0], .int .i64 8])) W))
      generalize BPost w0 I (⟨0, 0, 0, 0, 0, []⟩, 8) = POST at *
      go_enter Try.func30, Try.ntmps30
      clear hfold
      skip
      go_wp2_with (first | (go_at_call 33; have h := HI.out; refine (check_st ⟨3, be, bf, bd, br, es⟩ A n c m HL.out HB.out hm hc H).mono ?_; clear H h; rintro ed wy ⟨rfl, H⟩) | (go_at_call 34; refine (node_any _ _).mono ?_; rintro ed wy ⟨rfl, rfl⟩) | (first
          | ((with_reducible refine here_load ?_); first | (refine wpList_load_st H rfl 46 _ rfl rfl row_Queue (by kernel_rfl) ?_) | (refine wpList_load_st H rfl 50 _ rfl rfl row_Answer (by kernel_rfl) ?_) | (refine wpList_load_st H rfl 37 _ rfl rfl row_Event (by kernel_rfl) ?_) | (refine wpList_load_st H rfl 27 _ rfl rfl row_Berth (by kernel_rfl) ?_) | (refine wpList_load1_st H rfl 3 _ rfl rfl sc_int (by rfl) ?_) | (refine wpList_load1_stG H (by rfl) 3 _ rfl rfl sc_int (by rfl) ?_) | (refine wpList_load1_st H rfl 4 _ rfl rfl sc_bool (by rfl) ?_) | (refine wpList_load1_stG H (by rfl) 4 _ rfl rfl sc_bool (by rfl) ?_) | (refine wpList_load1_st H rfl 30 _ rfl rfl sc_Errno (by rfl) ?_) | (refine wpList_load1_stG H (by rfl) 30 _ rfl rfl sc_Errno (by rfl) ?_) | (refine wpList_load1_st H rfl 25 _ rfl rfl sc_Evs (by rfl) ?_) | (refine wpList_load1_stG H (by rfl) 25 _ rfl rfl sc_Evs (by rfl) ?_))
          | ((with_reducible refine here_store ?_); first | (refine wpList_store_st H rfl 46 _ _ rfl rfl rfl (by kernel_rfl) (by rfl) (by kernel_rfl) ?_; clear H; intro wx H) | (refine wpList_store_st H rfl 50 _ _ rfl rfl rfl (by kernel_rfl) (by rfl) (by kernel_rfl) ?_; clear H; intro wx H) | (refine wpList_store_st H rfl 37 _ _ rfl rfl rfl (by kernel_rfl) (by rfl) (by kernel_rfl) ?_; clear H; intro wx H) | (refine wpList_store_st H rfl 27 _ _ rfl rfl rfl (by kernel_rfl) (by rfl) (by kernel_rfl) ?_; clear H; intro wx H) | (refine wpList_store1_st H rfl 3 _ _ rfl rfl _ rfl (by rfl) s1_int (by rfl) (by rfl) ?_; clear H; intro wx H) | (refine wpList_store1_st H rfl 4 _ _ rfl rfl _ rfl (by rfl) s1_bool (by rfl) (by rfl) ?_; clear H; intro wx H) | (refine wpList_store1_st H rfl 30 _ _ rfl rfl _ rfl (by rfl) s1_Errno (by rfl) (by rfl) ?_; clear H; intro wx H) | (refine wpList_store1_st H rfl 25 _ _ rfl rfl _ rfl (by rfl) s1_Evs (by rfl) (by rfl) ?_; clear H; intro wx H))
          | ((with_reducible refine here_alloc ?_); first | (refine wpList_alloc_st H rfl 46 rfl _ q_zero ?_; clear H; intro gq wx H) | (refine wpList_alloc_st H rfl 50 rfl _ ans_zero ?_; clear H; intro ga wx H) | (refine wpList_alloc_st H rfl 37 rfl _ ev_zero ?_; clear H; intro ge wx H) | (refine wpList_alloc_st H rfl 27 rfl _ ber_zero ?_; clear H; intro gr wx H))
          | ((with_reducible refine here_box ?_); first | (refine wpList_box_st H rfl _ _ rfl _ rfl ?_; clear H; intro gb wx H))))
      have l4 : (loadVar 27 ⟨gr, 0, none⟩).run Try.prog wx = .ok (.agg #[.int .i64 0, .int .i64 0, .int .i64 0, .int .i64 0, .int .i64 0, .slice none 0 0]) wx := H.loadRow 27 gr row_Berth (P := Try.prog) (by kernel_rfl)
      exact bodyPost_ret (v := .tuple #[.agg #[.int .i64 0, .int .i64 0, .int .i64 0, .int .i64 0, .int .i64 0, .slice none 0 0], .int .i64 8]) (by simp [results, Try.results30, asAddr, l4]) rfl (HF.out _ (H.subm _))
    · skip
      by_cases h5 : be = ep
      · subst h5
        by_cases h6 : bf = fr
        · subst h6
          have hR : BM.beginR ⟨4, be, bf, bd, br, es⟩ be bf = (⟨4, be, bf, bd, br, es⟩, 0) := by
            (unfold BM.beginR; dsimp only; repeat (first | rw [if_pos (by omega)] | rw [if_neg (by omega)]); try rfl)
          rw [hR]
          clear hR
          have HF := Lib.hid (fun W A' c' (h1 : n ≤ c') (h2 : St w0 W (evIt A' es :: I)) => (BPost.mk (r := (⟨4, be, bf, bd, br, es⟩, 0)) HL.out h1 h2 : BPost w0 I (⟨4, be, bf, bd, br, es⟩, 0) (.returned (.tuple #[.agg #[.int .i64 4, .int .i64 be, .int .i64 bf, .int .i64 bd, .int .i64 br, .slice A' n c'], .int .i64 0])) W))
          generalize BPost w0 I (⟨4, be, bf, bd, br, es⟩, 0) = POST at *
          go_enter Try.func30, Try.ntmps30
          clear hfold
          skip
          go_wp2_with (first | (go_at_call 33; have h := HI.out; refine (check_st ⟨4, be, bf, bd, br, es⟩ A n c m HL.out HB.out hm hc H).mono ?_; clear H h; rintro ed wy ⟨rfl, H⟩) | (go_at_call 34; refine (node_any _ _).mono ?_; rintro ed wy ⟨rfl, rfl⟩) | (go_at_call 35; have h := HI.out; refine (with_nil ⟨4, be, bf, bd, br, es⟩ A n c HL.out (by omega) hc H).mono ?_; clear H h; rintro ed wy ⟨A9, c9, rfl, hc9, H⟩) | (first
              | ((with_reducible refine here_load ?_); first | (refine wpList_load_st H rfl 46 _ rfl rfl row_Queue (by kernel_rfl) ?_) | (refine wpList_load_st H rfl 50 _ rfl rfl row_Answer (by kernel_rfl) ?_) | (refine wpList_load_st H rfl 37 _ rfl rfl row_Event (by kernel_rfl) ?_) | (refine wpList_load_st H rfl 27 _ rfl rfl row_Berth (by kernel_rfl) ?_) | (refine wpList_load1_st H rfl 3 _ rfl rfl sc_int (by rfl) ?_) | (refine wpList_load1_stG H (by rfl) 3 _ rfl rfl sc_int (by rfl) ?_) | (refine wpList_load1_st H rfl 4 _ rfl rfl sc_bool (by rfl) ?_) | (refine wpList_load1_stG H (by rfl) 4 _ rfl rfl sc_bool (by rfl) ?_) | (refine wpList_load1_st H rfl 30 _ rfl rfl sc_Errno (by rfl) ?_) | (refine wpList_load1_stG H (by rfl) 30 _ rfl rfl sc_Errno (by rfl) ?_) | (refine wpList_load1_st H rfl 25 _ rfl rfl sc_Evs (by rfl) ?_) | (refine wpList_load1_stG H (by rfl) 25 _ rfl rfl sc_Evs (by rfl) ?_))
              | ((with_reducible refine here_store ?_); first | (refine wpList_store_st H rfl 46 _ _ rfl rfl rfl (by kernel_rfl) (by rfl) (by kernel_rfl) ?_; clear H; intro wx H) | (refine wpList_store_st H rfl 50 _ _ rfl rfl rfl (by kernel_rfl) (by rfl) (by kernel_rfl) ?_; clear H; intro wx H) | (refine wpList_store_st H rfl 37 _ _ rfl rfl rfl (by kernel_rfl) (by rfl) (by kernel_rfl) ?_; clear H; intro wx H) | (refine wpList_store_st H rfl 27 _ _ rfl rfl rfl (by kernel_rfl) (by rfl) (by kernel_rfl) ?_; clear H; intro wx H) | (refine wpList_store1_st H rfl 3 _ _ rfl rfl _ rfl (by rfl) s1_int (by rfl) (by rfl) ?_; clear H; intro wx H) | (refine wpList_store1_st H rfl 4 _ _ rfl rfl _ rfl (by rfl) s1_bool (by rfl) (by rfl) ?_; clear H; intro wx H) | (refine wpList_store1_st H rfl 30 _ _ rfl rfl _ rfl (by rfl) s1_Errno (by rfl) (by rfl) ?_; clear H; intro wx H) | (refine wpList_store1_st H rfl 25 _ _ rfl rfl _ rfl (by rfl) s1_Evs (by rfl) (by rfl) ?_; clear H; intro wx H))
              | ((with_reducible refine here_alloc ?_); first | (refine wpList_alloc_st H rfl 46 rfl _ q_zero ?_; clear H; intro gq wx H) | (refine wpList_alloc_st H rfl 50 rfl _ ans_zero ?_; clear H; intro ga wx H) | (refine wpList_alloc_st H rfl 37 rfl _ ev_zero ?_; clear H; intro ge wx H) | (refine wpList_alloc_st H rfl 27 rfl _ ber_zero ?_; clear H; intro gr wx H))
              | ((with_reducible refine here_box ?_); first | (refine wpList_box_st H rfl _ _ rfl _ rfl ?_; clear H; intro gb wx H))))
          have l4 : (loadVar 27 ⟨gr, 0, none⟩).run Try.prog wx = .ok (.agg #[.int .i64 4, .int .i64 be, .int .i64 bf, .int .i64 bd, .int .i64 br, .slice A9 n c9]) wx := H.loadRow 27 gr row_Berth (P := Try.prog) (by kernel_rfl)
          exact bodyPost_ret (v := .tuple #[.agg #[.int .i64 4, .int .i64 be, .int .i64 bf, .int .i64 bd, .int .i64 br, .slice A9 n c9], .int .i64 0]) (by simp [results, Try.results30, asAddr, l4]) rfl (HF.out _ _ _ hc9 (H.subm _))
        · skip
          have g1a : ((bf : Int) == fr) = false := by simp; omega
          have g1b : decide ((bf : Int) = fr) = false := by simp; omega
          have h4 : be ≤ be := Int.le_refl _
          have hR : BM.beginR ⟨4, be, bf, bd, br, es⟩ be fr = (⟨0, 0, 0, 0, 0, []⟩, 15) := by
            (unfold BM.beginR; dsimp only; repeat (first | rw [if_pos (by omega)] | rw [if_neg (by omega)]); try rfl)
          rw [hR]
          clear hR
          have HF := Lib.hid (fun W (h2 : St w0 W I) => (BPost.mk (r := (⟨0, 0, 0, 0, 0, []⟩, 15)) (n := 0) (c := 0) (A := none) rfl (Nat.le_refl _) (h2.old (s := 6) (n := 0) (A := none) (xs := []) Reads.none_) : BPost w0 I (⟨0, 0, 0, 0, 0, []⟩, 15) (.returned (.tuple #[.agg #[.int .i64 0, .int .i64 0, .int .i64 0, .int .i64 0, .int .i64 0, .slice none 0 0], .int .i64 15])) W))
          generalize BPost w0 I (⟨0, 0, 0, 0, 0, []⟩, 15) = POST at *
          go_enter Try.func30, Try.ntmps30
          clear hfold
          skip
          go_wp2_with (first | (go_at_call 33; have h := HI.out; refine (check_st ⟨4, be, bf, bd, br, es⟩ A n c m HL.out HB.out hm hc H).mono ?_; clear H h; rintro ed wy ⟨rfl, H⟩) | (go_at_call 34; refine (node_any _ _).mono ?_; rintro ed wy ⟨rfl, rfl⟩) | (first
              | ((with_reducible refine here_load ?_); first | (refine wpList_load_st H rfl 46 _ rfl rfl row_Queue (by kernel_rfl) ?_) | (refine wpList_load_st H rfl 50 _ rfl rfl row_Answer (by kernel_rfl) ?_) | (refine wpList_load_st H rfl 37 _ rfl rfl row_Event (by kernel_rfl) ?_) | (refine wpList_load_st H rfl 27 _ rfl rfl row_Berth (by kernel_rfl) ?_) | (refine wpList_load1_st H rfl 3 _ rfl rfl sc_int (by rfl) ?_) | (refine wpList_load1_stG H (by rfl) 3 _ rfl rfl sc_int (by rfl) ?_) | (refine wpList_load1_st H rfl 4 _ rfl rfl sc_bool (by rfl) ?_) | (refine wpList_load1_stG H (by rfl) 4 _ rfl rfl sc_bool (by rfl) ?_) | (refine wpList_load1_st H rfl 30 _ rfl rfl sc_Errno (by rfl) ?_) | (refine wpList_load1_stG H (by rfl) 30 _ rfl rfl sc_Errno (by rfl) ?_) | (refine wpList_load1_st H rfl 25 _ rfl rfl sc_Evs (by rfl) ?_) | (refine wpList_load1_stG H (by rfl) 25 _ rfl rfl sc_Evs (by rfl) ?_))
              | ((with_reducible refine here_store ?_); first | (refine wpList_store_st H rfl 46 _ _ rfl rfl rfl (by kernel_rfl) (by rfl) (by kernel_rfl) ?_; clear H; intro wx H) | (refine wpList_store_st H rfl 50 _ _ rfl rfl rfl (by kernel_rfl) (by rfl) (by kernel_rfl) ?_; clear H; intro wx H) | (refine wpList_store_st H rfl 37 _ _ rfl rfl rfl (by kernel_rfl) (by rfl) (by kernel_rfl) ?_; clear H; intro wx H) | (refine wpList_store_st H rfl 27 _ _ rfl rfl rfl (by kernel_rfl) (by rfl) (by kernel_rfl) ?_; clear H; intro wx H) | (refine wpList_store1_st H rfl 3 _ _ rfl rfl _ rfl (by rfl) s1_int (by rfl) (by rfl) ?_; clear H; intro wx H) | (refine wpList_store1_st H rfl 4 _ _ rfl rfl _ rfl (by rfl) s1_bool (by rfl) (by rfl) ?_; clear H; intro wx H) | (refine wpList_store1_st H rfl 30 _ _ rfl rfl _ rfl (by rfl) s1_Errno (by rfl) (by rfl) ?_; clear H; intro wx H) | (refine wpList_store1_st H rfl 25 _ _ rfl rfl _ rfl (by rfl) s1_Evs (by rfl) (by rfl) ?_; clear H; intro wx H))
              | ((with_reducible refine here_alloc ?_); first | (refine wpList_alloc_st H rfl 46 rfl _ q_zero ?_; clear H; intro gq wx H) | (refine wpList_alloc_st H rfl 50 rfl _ ans_zero ?_; clear H; intro ga wx H) | (refine wpList_alloc_st H rfl 37 rfl _ ev_zero ?_; clear H; intro ge wx H) | (refine wpList_alloc_st H rfl 27 rfl _ ber_zero ?_; clear H; intro gr wx H))
              | ((with_reducible refine here_box ?_); first | (refine wpList_box_st H rfl _ _ rfl _ rfl ?_; clear H; intro gb wx H))))
          have l4 : (loadVar 27 ⟨gr, 0, none⟩).run Try.prog wx = .ok (.agg #[.int .i64 0, .int .i64 0, .int .i64 0, .int .i64 0, .int .i64 0, .slice none 0 0]) wx := H.loadRow 27 gr row_Berth (P := Try.prog) (by kernel_rfl)
          exact bodyPost_ret (v := .tuple #[.agg #[.int .i64 0, .int .i64 0, .int .i64 0, .int .i64 0, .int .i64 0, .slice none 0 0], .int .i64 15]) (by simp [results, Try.results30, asAddr, l4]) rfl (HF.out _ (H.subm _))
      · skip
        have g1a : ((be : Int) == ep) = false := by simp; omega
        have g1b : decide ((be : Int) = ep) = false := by simp; omega
        by_cases h4 : ep ≤ be
        · skip
          have hR : BM.beginR ⟨4, be, bf, bd, br, es⟩ ep fr = (⟨0, 0, 0, 0, 0, []⟩, 15) := by
            (unfold BM.beginR; dsimp only; repeat (first | rw [if_pos (by omega)] | rw [if_neg (by omega)]); try rfl)
          rw [hR]
          clear hR
          have HF := Lib.hid (fun W (h2 : St w0 W I) => (BPost.mk (r := (⟨0, 0, 0, 0, 0, []⟩, 15)) (n := 0) (c := 0) (A := none) rfl (Nat.le_refl _) (h2.old (s := 6) (n := 0) (A := none) (xs := []) Reads.none_) : BPost w0 I (⟨0, 0, 0, 0, 0, []⟩, 15) (.returned (.tuple #[.agg #[.int .i64 0, .int .i64 0, .int .i64 0, .int .i64 0, .int .i64 0, .slice none 0 0], .int .i64 15])) W))
          generalize BPost w0 I (⟨0, 0, 0, 0, 0, []⟩, 15) = POST at *
          go_enter Try.func30, Try.ntmps30
          clear hfold
          skip
          go_wp2_with (first | (go_at_call 33; have h := HI.out; refine (check_st ⟨4, be, bf, bd, br, es⟩ A n c m HL.out HB.out hm hc H).mono ?_; clear H h; rintro ed wy ⟨rfl, H⟩) | (go_at_call 34; refine (node_any _ _).mono ?_; rintro ed wy ⟨rfl, rfl⟩) | (first
              | ((with_reducible refine here_load ?_); first | (refine wpList_load_st H rfl 46 _ rfl rfl row_Queue (by kernel_rfl) ?_) | (refine wpList_load_st H rfl 50 _ rfl rfl row_Answer (by kernel_rfl) ?_) | (refine wpList_load_st H rfl 37 _ rfl rfl row_Event (by kernel_rfl) ?_) | (refine wpList_load_st H rfl 27 _ rfl rfl row_Berth (by kernel_rfl) ?_) | (refine wpList_load1_st H rfl 3 _ rfl rfl sc_int (by rfl) ?_) | (refine wpList_load1_stG H (by rfl) 3 _ rfl rfl sc_int (by rfl) ?_) | (refine wpList_load1_st H rfl 4 _ rfl rfl sc_bool (by rfl) ?_) | (refine wpList_load1_stG H (by rfl) 4 _ rfl rfl sc_bool (by rfl) ?_) | (refine wpList_load1_st H rfl 30 _ rfl rfl sc_Errno (by rfl) ?_) | (refine wpList_load1_stG H (by rfl) 30 _ rfl rfl sc_Errno (by rfl) ?_) | (refine wpList_load1_st H rfl 25 _ rfl rfl sc_Evs (by rfl) ?_) | (refine wpList_load1_stG H (by rfl) 25 _ rfl rfl sc_Evs (by rfl) ?_))
              | ((with_reducible refine here_store ?_); first | (refine wpList_store_st H rfl 46 _ _ rfl rfl rfl (by kernel_rfl) (by rfl) (by kernel_rfl) ?_; clear H; intro wx H) | (refine wpList_store_st H rfl 50 _ _ rfl rfl rfl (by kernel_rfl) (by rfl) (by kernel_rfl) ?_; clear H; intro wx H) | (refine wpList_store_st H rfl 37 _ _ rfl rfl rfl (by kernel_rfl) (by rfl) (by kernel_rfl) ?_; clear H; intro wx H) | (refine wpList_store_st H rfl 27 _ _ rfl rfl rfl (by kernel_rfl) (by rfl) (by kernel_rfl) ?_; clear H; intro wx H) | (refine wpList_store1_st H rfl 3 _ _ rfl rfl _ rfl (by rfl) s1_int (by rfl) (by rfl) ?_; clear H; intro wx H) | (refine wpList_store1_st H rfl 4 _ _ rfl rfl _ rfl (by rfl) s1_bool (by rfl) (by rfl) ?_; clear H; intro wx H) | (refine wpList_store1_st H rfl 30 _ _ rfl rfl _ rfl (by rfl) s1_Errno (by rfl) (by rfl) ?_; clear H; intro wx H) | (refine wpList_store1_st H rfl 25 _ _ rfl rfl _ rfl (by rfl) s1_Evs (by rfl) (by rfl) ?_; clear H; intro wx H))
              | ((with_reducible refine here_alloc ?_); first | (refine wpList_alloc_st H rfl 46 rfl _ q_zero ?_; clear H; intro gq wx H) | (refine wpList_alloc_st H rfl 50 rfl _ ans_zero ?_; clear H; intro ga wx H) | (refine wpList_alloc_st H rfl 37 rfl _ ev_zero ?_; clear H; intro ge wx H) | (refine wpList_alloc_st H rfl 27 rfl _ ber_zero ?_; clear H; intro gr wx H))
              | ((with_reducible refine here_box ?_); first | (refine wpList_box_st H rfl _ _ rfl _ rfl ?_; clear H; intro gb wx H))))
          have l4 : (loadVar 27 ⟨gr, 0, none⟩).run Try.prog wx = .ok (.agg #[.int .i64 0, .int .i64 0, .int .i64 0, .int .i64 0, .int .i64 0, .slice none 0 0]) wx := H.loadRow 27 gr row_Berth (P := Try.prog) (by kernel_rfl)
          exact bodyPost_ret (v := .tuple #[.agg #[.int .i64 0, .int .i64 0, .int .i64 0, .int .i64 0, .int .i64 0, .slice none 0 0], .int .i64 15]) (by simp [results, Try.results30, asAddr, l4]) rfl (HF.out _ (H.subm _))
        · skip
          have hR : BM.beginR ⟨4, be, bf, bd, br, es⟩ ep fr = (⟨4, ep, fr, 0, 0, []⟩, 0) := by
            (unfold BM.beginR; dsimp only; repeat (first | rw [if_pos (by omega)] | rw [if_neg (by omega)]); try rfl)
          rw [hR]
          clear hR
          have HF := Lib.hid (fun W (h2 : St w0 W I) => (BPost.mk (r := (⟨4, ep, fr, 0, 0, []⟩, 0)) (n := 0) (c := 0) (A := none) rfl (Nat.le_refl _) (h2.old (s := 6) (n := 0) (A := none) (xs := []) Reads.none_) : BPost w0 I (⟨4, ep, fr, 0, 0, []⟩, 0) (.returned (.tuple #[.agg #[.int .i64 4, .int .i64 ep, .int .i64 fr, .int .i64 0, .int .i64 0, .slice none 0 0], .int .i64 0])) W))
          generalize BPost w0 I (⟨4, ep, fr, 0, 0, []⟩, 0) = POST at *
          go_enter Try.func30, Try.ntmps30
          clear hfold
          skip
          go_wp2_with (first | (go_at_call 33; have h := HI.out; refine (check_st ⟨4, be, bf, bd, br, es⟩ A n c m HL.out HB.out hm hc H).mono ?_; clear H h; rintro ed wy ⟨rfl, H⟩) | (go_at_call 34; refine (node_any _ _).mono ?_; rintro ed wy ⟨rfl, rfl⟩) | (first
              | ((with_reducible refine here_load ?_); first | (refine wpList_load_st H rfl 46 _ rfl rfl row_Queue (by kernel_rfl) ?_) | (refine wpList_load_st H rfl 50 _ rfl rfl row_Answer (by kernel_rfl) ?_) | (refine wpList_load_st H rfl 37 _ rfl rfl row_Event (by kernel_rfl) ?_) | (refine wpList_load_st H rfl 27 _ rfl rfl row_Berth (by kernel_rfl) ?_) | (refine wpList_load1_st H rfl 3 _ rfl rfl sc_int (by rfl) ?_) | (refine wpList_load1_stG H (by rfl) 3 _ rfl rfl sc_int (by rfl) ?_) | (refine wpList_load1_st H rfl 4 _ rfl rfl sc_bool (by rfl) ?_) | (refine wpList_load1_stG H (by rfl) 4 _ rfl rfl sc_bool (by rfl) ?_) | (refine wpList_load1_st H rfl 30 _ rfl rfl sc_Errno (by rfl) ?_) | (refine wpList_load1_stG H (by rfl) 30 _ rfl rfl sc_Errno (by rfl) ?_) | (refine wpList_load1_st H rfl 25 _ rfl rfl sc_Evs (by rfl) ?_) | (refine wpList_load1_stG H (by rfl) 25 _ rfl rfl sc_Evs (by rfl) ?_))
              | ((with_reducible refine here_store ?_); first | (refine wpList_store_st H rfl 46 _ _ rfl rfl rfl (by kernel_rfl) (by rfl) (by kernel_rfl) ?_; clear H; intro wx H) | (refine wpList_store_st H rfl 50 _ _ rfl rfl rfl (by kernel_rfl) (by rfl) (by kernel_rfl) ?_; clear H; intro wx H) | (refine wpList_store_st H rfl 37 _ _ rfl rfl rfl (by kernel_rfl) (by rfl) (by kernel_rfl) ?_; clear H; intro wx H) | (refine wpList_store_st H rfl 27 _ _ rfl rfl rfl (by kernel_rfl) (by rfl) (by kernel_rfl) ?_; clear H; intro wx H) | (refine wpList_store1_st H rfl 3 _ _ rfl rfl _ rfl (by rfl) s1_int (by rfl) (by rfl) ?_; clear H; intro wx H) | (refine wpList_store1_st H rfl 4 _ _ rfl rfl _ rfl (by rfl) s1_bool (by rfl) (by rfl) ?_; clear H; intro wx H) | (refine wpList_store1_st H rfl 30 _ _ rfl rfl _ rfl (by rfl) s1_Errno (by rfl) (by rfl) ?_; clear H; intro wx H) | (refine wpList_store1_st H rfl 25 _ _ rfl rfl _ rfl (by rfl) s1_Evs (by rfl) (by rfl) ?_; clear H; intro wx H))
              | ((with_reducible refine here_alloc ?_); first | (refine wpList_alloc_st H rfl 46 rfl _ q_zero ?_; clear H; intro gq wx H) | (refine wpList_alloc_st H rfl 50 rfl _ ans_zero ?_; clear H; intro ga wx H) | (refine wpList_alloc_st H rfl 37 rfl _ ev_zero ?_; clear H; intro ge wx H) | (refine wpList_alloc_st H rfl 27 rfl _ ber_zero ?_; clear H; intro gr wx H))
              | ((with_reducible refine here_box ?_); first | (refine wpList_box_st H rfl _ _ rfl _ rfl ?_; clear H; intro gb wx H))))
          have l4 : (loadVar 27 ⟨gr, 0, none⟩).run Try.prog wx = .ok (.agg #[.int .i64 4, .int .i64 ep, .int .i64 fr, .int .i64 0, .int .i64 0, .slice none 0 0]) wx := H.loadRow 27 gr row_Berth (P := Try.prog) (by kernel_rfl)
          exact bodyPost_ret (v := .tuple #[.agg #[.int .i64 4, .int .i64 ep, .int .i64 fr, .int .i64 0, .int .i64 0, .slice none 0 0], .int .i64 0]) (by simp [results, Try.results30, asAddr, l4]) rfl (HF.out _ (H.subm _))
  · have h3d := decide_eq_false h3
    have hR : BM.beginR ⟨r, be, bf, bd, br, es⟩ ep fr = (⟨0, 0, 0, 0, 0, []⟩, 2) := by
      (unfold BM.beginR; dsimp only; repeat (first | rw [if_pos (by omega)] | rw [if_neg (by omega)]); try rfl)
    rw [hR]
    clear hR
    have HF := Lib.hid (fun W (h2 : St w0 W I) => (BPost.mk (r := (⟨0, 0, 0, 0, 0, []⟩, 2)) (n := 0) (c := 0) (A := none) rfl (Nat.le_refl _) (h2.old (s := 6) (n := 0) (A := none) (xs := []) Reads.none_) : BPost w0 I (⟨0, 0, 0, 0, 0, []⟩, 2) (.returned (.tuple #[.agg #[.int .i64 0, .int .i64 0, .int .i64 0, .int .i64 0, .int .i64 0, .slice none 0 0], .int .i64 2])) W))
    generalize BPost w0 I (⟨0, 0, 0, 0, 0, []⟩, 2) = POST at *
    go_enter Try.func30, Try.ntmps30
    clear hfold
    skip
    go_wp2_with (first | (go_at_call 33; have h := HI.out; refine (check_st ⟨r, be, bf, bd, br, es⟩ A n c m HL.out HB.out hm hc H).mono ?_; clear H h; rintro ed wy ⟨rfl, H⟩) | (go_at_call 34; refine (node_any _ _).mono ?_; rintro ed wy ⟨rfl, rfl⟩) | (first
        | ((with_reducible refine here_load ?_); first | (refine wpList_load_st H rfl 46 _ rfl rfl row_Queue (by kernel_rfl) ?_) | (refine wpList_load_st H rfl 50 _ rfl rfl row_Answer (by kernel_rfl) ?_) | (refine wpList_load_st H rfl 37 _ rfl rfl row_Event (by kernel_rfl) ?_) | (refine wpList_load_st H rfl 27 _ rfl rfl row_Berth (by kernel_rfl) ?_) | (refine wpList_load1_st H rfl 3 _ rfl rfl sc_int (by rfl) ?_) | (refine wpList_load1_stG H (by rfl) 3 _ rfl rfl sc_int (by rfl) ?_) | (refine wpList_load1_st H rfl 4 _ rfl rfl sc_bool (by rfl) ?_) | (refine wpList_load1_stG H (by rfl) 4 _ rfl rfl sc_bool (by rfl) ?_) | (refine wpList_load1_st H rfl 30 _ rfl rfl sc_Errno (by rfl) ?_) | (refine wpList_load1_stG H (by rfl) 30 _ rfl rfl sc_Errno (by rfl) ?_) | (refine wpList_load1_st H rfl 25 _ rfl rfl sc_Evs (by rfl) ?_) | (refine wpList_load1_stG H (by rfl) 25 _ rfl rfl sc_Evs (by rfl) ?_))
        | ((with_reducible refine here_store ?_); first | (refine wpList_store_st H rfl 46 _ _ rfl rfl rfl (by kernel_rfl) (by rfl) (by kernel_rfl) ?_; clear H; intro wx H) | (refine wpList_store_st H rfl 50 _ _ rfl rfl rfl (by kernel_rfl) (by rfl) (by kernel_rfl) ?_; clear H; intro wx H) | (refine wpList_store_st H rfl 37 _ _ rfl rfl rfl (by kernel_rfl) (by rfl) (by kernel_rfl) ?_; clear H; intro wx H) | (refine wpList_store_st H rfl 27 _ _ rfl rfl rfl (by kernel_rfl) (by rfl) (by kernel_rfl) ?_; clear H; intro wx H) | (refine wpList_store1_st H rfl 3 _ _ rfl rfl _ rfl (by rfl) s1_int (by rfl) (by rfl) ?_; clear H; intro wx H) | (refine wpList_store1_st H rfl 4 _ _ rfl rfl _ rfl (by rfl) s1_bool (by rfl) (by rfl) ?_; clear H; intro wx H) | (refine wpList_store1_st H rfl 30 _ _ rfl rfl _ rfl (by rfl) s1_Errno (by rfl) (by rfl) ?_; clear H; intro wx H) | (refine wpList_store1_st H rfl 25 _ _ rfl rfl _ rfl (by rfl) s1_Evs (by rfl) (by rfl) ?_; clear H; intro wx H))
        | ((with_reducible refine here_alloc ?_); first | (refine wpList_alloc_st H rfl 46 rfl _ q_zero ?_; clear H; intro gq wx H) | (refine wpList_alloc_st H rfl 50 rfl _ ans_zero ?_; clear H; intro ga wx H) | (refine wpList_alloc_st H rfl 37 rfl _ ev_zero ?_; clear H; intro ge wx H) | (refine wpList_alloc_st H rfl 27 rfl _ ber_zero ?_; clear H; intro gr wx H))
        | ((with_reducible refine here_box ?_); first | (refine wpList_box_st H rfl _ _ rfl _ rfl ?_; clear H; intro gb wx H))))
    have l4 : (loadVar 27 ⟨gr, 0, none⟩).run Try.prog wx = .ok (.agg #[.int .i64 0, .int .i64 0, .int .i64 0, .int .i64 0, .int .i64 0, .slice none 0 0]) wx := H.loadRow 27 gr row_Berth (P := Try.prog) (by kernel_rfl)
    exact bodyPost_ret (v := .tuple #[.agg #[.int .i64 0, .int .i64 0, .int .i64 0, .int .i64 0, .int .i64 0, .slice none 0 0], .int .i64 2]) (by simp [results, Try.results30, asAddr, l4]) rfl (HF.out _ (H.subm _))

end Go.Proofs.Ytjgbkicnagcmdaa
