/- Berths: Caught, Begin. And more of what the proof stands on. -/
import Derived.Deep.QuietTactic
import Derived.BigQuiet
import Derived.BigFrame
import Derived.Deep.Cut
import Derived.Deep.DeepCutAuto
import Derived.Deep.RegionHeld3
import Derived.Test.YtjmncbfmjeeneaaRB6

namespace Go.Proofs.Ytjmncbfmjeeneaa
open Go.RowKit

set_option maxRecDepth 100000 in
set_option maxHeartbeats 8000000 in
theorem caught_st {w0 w : World} {I : List It} (b : BM) (A : Option Addr) (n c m : Nat) (k : Int) (hl : b.es.length = n) (hb : b.Ok m) (hm : m ≤ 150) (hc : n ≤ c) (H : St w0 w I) [h : Has I (evIt A b.es)] :
    Calls Try.prog 22 #[.agg (bArr b A n c), .int .i64 k] w (BPost w0 I (b.caughtR k)) := by
  have hn : n ≤ 150 := by have := hb.len; omega
  have HI := Lib.hid h
  have HB := Lib.hid hb
  have HL := Lib.hid hl
  have HS := hb.shape
  clear h hb hl
  have hfold : bArr b A n c = #[Value.int .i64 b.role, .int .i64 b.ep, .int .i64 b.frm, .int .i64 b.dst, .int .i64 b.rounds, .slice A n c] := rfl
  rw [hfold]
  obtain ⟨r, be, bf, bd, br, es⟩ := b
  unfold BM.Shape at HS
  dsimp only at HS HB HL HI ⊢
  have hln : es.length = n := HL.out
  have HR : r = 0 ∨ r = 1 ∨ r = 2 ∨ r = 3 ∨ r = 4 := by omega
  rcases HR with rfl | rfl | rfl | rfl | rfl
  · skip
    have hR : BM.caughtR ⟨0, be, bf, bd, br, es⟩ k = (⟨0, 0, 0, 0, 0, []⟩, 7) := by
      (unfold BM.caughtR BM.caught; dsimp only; repeat (first | rw [if_pos (by omega)] | rw [if_neg (by omega)]); try rfl)
    rw [hR]
    clear hR
    have HF := Lib.hid (fun W (h2 : St w0 W I) => (BPost.mk (r := (⟨0, 0, 0, 0, 0, []⟩, 7)) (n := 0) (c := 0) (A := none) rfl (Nat.le_refl _) (h2.old (s := 6) (n := 0) (A := none) (xs := []) Reads.none_) : BPost w0 I (⟨0, 0, 0, 0, 0, []⟩, 7) (.returned (.tuple #[.agg #[.int .i64 0, .int .i64 0, .int .i64 0, .int .i64 0, .int .i64 0, .slice none 0 0], .int .i64 7])) W))
    generalize BPost w0 I (⟨0, 0, 0, 0, 0, []⟩, 7) = POST at *
    go_enter Try.func22, Try.ntmps22
    clear hfold
    skip
    go_wp2_with (first | (go_at_call 41; have h := HI.out; refine (check_st ⟨0, be, bf, bd, br, es⟩ A n c m HL.out HB.out hm hc H).mono ?_; clear H h; rintro ed wy ⟨rfl, H⟩) | (go_at_call 44; refine (node_any _ _).mono ?_; rintro ed wy ⟨rfl, rfl⟩) | (first | ((with_reducible refine here_load ?_); first | refine ldR H rfl _ _ rfl rfl (by kernel_rfl) ?_ | refine ldS H rfl _ _ rfl rfl (by rfl) ?_ | refine ldSG H (by rfl) _ _ rfl rfl (by rfl) ?_ | refine ldRG H (by rfl) _ _ rfl rfl (by kernel_rfl) ?_) | ((with_reducible refine here_store ?_); first | (refine stR H rfl _ _ _ rfl rfl rfl (by rfl) (by rfl) (by kernel_rfl) ?_; clear H; intro wx H) | (refine stS H rfl _ _ _ rfl rfl _ rfl (by rfl) (by rfl) (by rfl) ?_; clear H; intro wx H)) | ((with_reducible refine here_alloc ?_); first | (refine wpList_alloc_st H rfl 37 rfl _ q_zero ?_; clear H; intro gq wx H) | (refine wpList_alloc_st H rfl 48 rfl _ ans_zero ?_; clear H; intro ga wx H) | (refine wpList_alloc_st H rfl 44 rfl _ ev_zero ?_; clear H; intro ge wx H) | (refine wpList_alloc_st H rfl 58 rfl _ ber_zero ?_; clear H; intro gr wx H)) | ((with_reducible refine here_box ?_); refine wpList_box_st H rfl _ _ rfl _ rfl ?_; clear H; intro gb wx H)))
    have l4 : (loadVar 58 ⟨gr, 0, none⟩).run Try.prog wx = .ok (.agg #[.int .i64 0, .int .i64 0, .int .i64 0, .int .i64 0, .int .i64 0, .slice none 0 0]) wx := H.loadRow 58 gr row_Berth (P := Try.prog) (by kernel_rfl)
    exact bodyPost_ret (v := .tuple #[.agg #[.int .i64 0, .int .i64 0, .int .i64 0, .int .i64 0, .int .i64 0, .slice none 0 0], .int .i64 7]) (by simp [results, Try.results22, asAddr, l4]) rfl (HF.out _ (H.subm _))
  · skip
    have hR : BM.caughtR ⟨1, be, bf, bd, br, es⟩ k = (⟨0, 0, 0, 0, 0, []⟩, 7) := by
      (unfold BM.caughtR BM.caught; dsimp only; repeat (first | rw [if_pos (by omega)] | rw [if_neg (by omega)]); try rfl)
    rw [hR]
    clear hR
    have HF := Lib.hid (fun W (h2 : St w0 W I) => (BPost.mk (r := (⟨0, 0, 0, 0, 0, []⟩, 7)) (n := 0) (c := 0) (A := none) rfl (Nat.le_refl _) (h2.old (s := 6) (n := 0) (A := none) (xs := []) Reads.none_) : BPost w0 I (⟨0, 0, 0, 0, 0, []⟩, 7) (.returned (.tuple #[.agg #[.int .i64 0, .int .i64 0, .int .i64 0, .int .i64 0, .int .i64 0, .slice none 0 0], .int .i64 7])) W))
    generalize BPost w0 I (⟨0, 0, 0, 0, 0, []⟩, 7) = POST at *
    go_enter Try.func22, Try.ntmps22
    clear hfold
    skip
    go_wp2_with (first | (go_at_call 41; have h := HI.out; refine (check_st ⟨1, be, bf, bd, br, es⟩ A n c m HL.out HB.out hm hc H).mono ?_; clear H h; rintro ed wy ⟨rfl, H⟩) | (go_at_call 44; refine (node_any _ _).mono ?_; rintro ed wy ⟨rfl, rfl⟩) | (first | ((with_reducible refine here_load ?_); first | refine ldR H rfl _ _ rfl rfl (by kernel_rfl) ?_ | refine ldS H rfl _ _ rfl rfl (by rfl) ?_ | refine ldSG H (by rfl) _ _ rfl rfl (by rfl) ?_ | refine ldRG H (by rfl) _ _ rfl rfl (by kernel_rfl) ?_) | ((with_reducible refine here_store ?_); first | (refine stR H rfl _ _ _ rfl rfl rfl (by rfl) (by rfl) (by kernel_rfl) ?_; clear H; intro wx H) | (refine stS H rfl _ _ _ rfl rfl _ rfl (by rfl) (by rfl) (by rfl) ?_; clear H; intro wx H)) | ((with_reducible refine here_alloc ?_); first | (refine wpList_alloc_st H rfl 37 rfl _ q_zero ?_; clear H; intro gq wx H) | (refine wpList_alloc_st H rfl 48 rfl _ ans_zero ?_; clear H; intro ga wx H) | (refine wpList_alloc_st H rfl 44 rfl _ ev_zero ?_; clear H; intro ge wx H) | (refine wpList_alloc_st H rfl 58 rfl _ ber_zero ?_; clear H; intro gr wx H)) | ((with_reducible refine here_box ?_); refine wpList_box_st H rfl _ _ rfl _ rfl ?_; clear H; intro gb wx H)))
    have l4 : (loadVar 58 ⟨gr, 0, none⟩).run Try.prog wx = .ok (.agg #[.int .i64 0, .int .i64 0, .int .i64 0, .int .i64 0, .int .i64 0, .slice none 0 0]) wx := H.loadRow 58 gr row_Berth (P := Try.prog) (by kernel_rfl)
    exact bodyPost_ret (v := .tuple #[.agg #[.int .i64 0, .int .i64 0, .int .i64 0, .int .i64 0, .int .i64 0, .slice none 0 0], .int .i64 7]) (by simp [results, Try.results22, asAddr, l4]) rfl (HF.out _ (H.subm _))
  · skip
    by_cases h1 : k < 0
    · skip
      have hR : BM.caughtR ⟨2, be, bf, bd, br, es⟩ k = (⟨0, 0, 0, 0, 0, []⟩, 2) := by
        (unfold BM.caughtR BM.caught; dsimp only; repeat (first | rw [if_pos (by omega)] | rw [if_neg (by omega)]); try rfl)
      rw [hR]
      clear hR
      have HF := Lib.hid (fun W (h2 : St w0 W I) => (BPost.mk (r := (⟨0, 0, 0, 0, 0, []⟩, 2)) (n := 0) (c := 0) (A := none) rfl (Nat.le_refl _) (h2.old (s := 6) (n := 0) (A := none) (xs := []) Reads.none_) : BPost w0 I (⟨0, 0, 0, 0, 0, []⟩, 2) (.returned (.tuple #[.agg #[.int .i64 0, .int .i64 0, .int .i64 0, .int .i64 0, .int .i64 0, .slice none 0 0], .int .i64 2])) W))
      generalize BPost w0 I (⟨0, 0, 0, 0, 0, []⟩, 2) = POST at *
      go_enter Try.func22, Try.ntmps22
      clear hfold
      skip
      go_wp2_with (first | (go_at_call 41; have h := HI.out; refine (check_st ⟨2, be, bf, bd, br, es⟩ A n c m HL.out HB.out hm hc H).mono ?_; clear H h; rintro ed wy ⟨rfl, H⟩) | (go_at_call 44; refine (node_any _ _).mono ?_; rintro ed wy ⟨rfl, rfl⟩) | (first | ((with_reducible refine here_load ?_); first | refine ldR H rfl _ _ rfl rfl (by kernel_rfl) ?_ | refine ldS H rfl _ _ rfl rfl (by rfl) ?_ | refine ldSG H (by rfl) _ _ rfl rfl (by rfl) ?_ | refine ldRG H (by rfl) _ _ rfl rfl (by kernel_rfl) ?_) | ((with_reducible refine here_store ?_); first | (refine stR H rfl _ _ _ rfl rfl rfl (by rfl) (by rfl) (by kernel_rfl) ?_; clear H; intro wx H) | (refine stS H rfl _ _ _ rfl rfl _ rfl (by rfl) (by rfl) (by rfl) ?_; clear H; intro wx H)) | ((with_reducible refine here_alloc ?_); first | (refine wpList_alloc_st H rfl 37 rfl _ q_zero ?_; clear H; intro gq wx H) | (refine wpList_alloc_st H rfl 48 rfl _ ans_zero ?_; clear H; intro ga wx H) | (refine wpList_alloc_st H rfl 44 rfl _ ev_zero ?_; clear H; intro ge wx H) | (refine wpList_alloc_st H rfl 58 rfl _ ber_zero ?_; clear H; intro gr wx H)) | ((with_reducible refine here_box ?_); refine wpList_box_st H rfl _ _ rfl _ rfl ?_; clear H; intro gb wx H)))
      have l4 : (loadVar 58 ⟨gr, 0, none⟩).run Try.prog wx = .ok (.agg #[.int .i64 0, .int .i64 0, .int .i64 0, .int .i64 0, .int .i64 0, .slice none 0 0]) wx := H.loadRow 58 gr row_Berth (P := Try.prog) (by kernel_rfl)
      exact bodyPost_ret (v := .tuple #[.agg #[.int .i64 0, .int .i64 0, .int .i64 0, .int .i64 0, .int .i64 0, .slice none 0 0], .int .i64 2]) (by simp [results, Try.results22, asAddr, l4]) rfl (HF.out _ (H.subm _))
    have d1 : decide (k < 0) = false := decide_eq_false h1
    by_cases h2 : (n : Int) < k
    · have d2 := decide_eq_true h2
      have hR : BM.caughtR ⟨2, be, bf, bd, br, es⟩ k = (⟨0, 0, 0, 0, 0, []⟩, 2) := by
        (unfold BM.caughtR BM.caught; dsimp only; repeat (first | rw [if_pos (by omega)] | rw [if_neg (by omega)]); try rfl)
      rw [hR]
      clear hR
      have HF := Lib.hid (fun W (h2 : St w0 W I) => (BPost.mk (r := (⟨0, 0, 0, 0, 0, []⟩, 2)) (n := 0) (c := 0) (A := none) rfl (Nat.le_refl _) (h2.old (s := 6) (n := 0) (A := none) (xs := []) Reads.none_) : BPost w0 I (⟨0, 0, 0, 0, 0, []⟩, 2) (.returned (.tuple #[.agg #[.int .i64 0, .int .i64 0, .int .i64 0, .int .i64 0, .int .i64 0, .slice none 0 0], .int .i64 2])) W))
      generalize BPost w0 I (⟨0, 0, 0, 0, 0, []⟩, 2) = POST at *
      go_enter Try.func22, Try.ntmps22
      clear hfold
      skip
      go_wp2_with (first | (go_at_call 41; have h := HI.out; refine (check_st ⟨2, be, bf, bd, br, es⟩ A n c m HL.out HB.out hm hc H).mono ?_; clear H h; rintro ed wy ⟨rfl, H⟩) | (go_at_call 44; refine (node_any _ _).mono ?_; rintro ed wy ⟨rfl, rfl⟩) | (first | ((with_reducible refine here_load ?_); first | refine ldR H rfl _ _ rfl rfl (by kernel_rfl) ?_ | refine ldS H rfl _ _ rfl rfl (by rfl) ?_ | refine ldSG H (by rfl) _ _ rfl rfl (by rfl) ?_ | refine ldRG H (by rfl) _ _ rfl rfl (by kernel_rfl) ?_) | ((with_reducible refine here_store ?_); first | (refine stR H rfl _ _ _ rfl rfl rfl (by rfl) (by rfl) (by kernel_rfl) ?_; clear H; intro wx H) | (refine stS H rfl _ _ _ rfl rfl _ rfl (by rfl) (by rfl) (by rfl) ?_; clear H; intro wx H)) | ((with_reducible refine here_alloc ?_); first | (refine wpList_alloc_st H rfl 37 rfl _ q_zero ?_; clear H; intro gq wx H) | (refine wpList_alloc_st H rfl 48 rfl _ ans_zero ?_; clear H; intro ga wx H) | (refine wpList_alloc_st H rfl 44 rfl _ ev_zero ?_; clear H; intro ge wx H) | (refine wpList_alloc_st H rfl 58 rfl _ ber_zero ?_; clear H; intro gr wx H)) | ((with_reducible refine here_box ?_); refine wpList_box_st H rfl _ _ rfl _ rfl ?_; clear H; intro gb wx H)))
      have l4 : (loadVar 58 ⟨gr, 0, none⟩).run Try.prog wx = .ok (.agg #[.int .i64 0, .int .i64 0, .int .i64 0, .int .i64 0, .int .i64 0, .slice none 0 0]) wx := H.loadRow 58 gr row_Berth (P := Try.prog) (by kernel_rfl)
      exact bodyPost_ret (v := .tuple #[.agg #[.int .i64 0, .int .i64 0, .int .i64 0, .int .i64 0, .int .i64 0, .slice none 0 0], .int .i64 2]) (by simp [results, Try.results22, asAddr, l4]) rfl (HF.out _ (H.subm _))
    have d2 := decide_eq_false h2
    by_cases h3 : k = (n : Int)
    · subst h3
      have hR : BM.caughtR ⟨2, be, bf, bd, br, es⟩ (n : Int) = (⟨3, be, bf, bd, 0, es⟩, 0) := by
        (unfold BM.caughtR BM.caught; dsimp only; repeat (first | rw [if_pos (by omega)] | rw [if_neg (by omega)]); try rfl)
      rw [hR]
      clear hR
      have HF := Lib.hid (fun W A' c' (h1 : n ≤ c') (h2 : St w0 W (evIt A' es :: I)) => (BPost.mk (r := (⟨3, be, bf, bd, 0, es⟩, 0)) HL.out h1 h2 : BPost w0 I (⟨3, be, bf, bd, 0, es⟩, 0) (.returned (.tuple #[.agg #[.int .i64 3, .int .i64 be, .int .i64 bf, .int .i64 bd, .int .i64 0, .slice A' n c'], .int .i64 0])) W))
      generalize BPost w0 I (⟨3, be, bf, bd, 0, es⟩, 0) = POST at *
      go_enter Try.func22, Try.ntmps22
      clear hfold
      skip
      go_wp2_with (first | (go_at_call 41; have h := HI.out; refine (check_st ⟨2, be, bf, bd, br, es⟩ A n c m HL.out HB.out hm hc H).mono ?_; clear H h; rintro ed wy ⟨rfl, H⟩) | (go_at_call 44; refine (node_any _ _).mono ?_; rintro ed wy ⟨rfl, rfl⟩) | (go_at_call 45; have h := HI.out; refine (with_nil ⟨3, be, bf, bd, 0, es⟩ A n c HL.out (by omega) hc H).mono ?_; clear H h; rintro ed wy ⟨A9, c9, rfl, hc9, H⟩) | (first | ((with_reducible refine here_load ?_); first | refine ldR H rfl _ _ rfl rfl (by kernel_rfl) ?_ | refine ldS H rfl _ _ rfl rfl (by rfl) ?_ | refine ldSG H (by rfl) _ _ rfl rfl (by rfl) ?_ | refine ldRG H (by rfl) _ _ rfl rfl (by kernel_rfl) ?_) | ((with_reducible refine here_store ?_); first | (refine stR H rfl _ _ _ rfl rfl rfl (by rfl) (by rfl) (by kernel_rfl) ?_; clear H; intro wx H) | (refine stS H rfl _ _ _ rfl rfl _ rfl (by rfl) (by rfl) (by rfl) ?_; clear H; intro wx H)) | ((with_reducible refine here_alloc ?_); first | (refine wpList_alloc_st H rfl 37 rfl _ q_zero ?_; clear H; intro gq wx H) | (refine wpList_alloc_st H rfl 48 rfl _ ans_zero ?_; clear H; intro ga wx H) | (refine wpList_alloc_st H rfl 44 rfl _ ev_zero ?_; clear H; intro ge wx H) | (refine wpList_alloc_st H rfl 58 rfl _ ber_zero ?_; clear H; intro gr wx H)) | ((with_reducible refine here_box ?_); refine wpList_box_st H rfl _ _ rfl _ rfl ?_; clear H; intro gb wx H)))
      have l4 : (loadVar 58 ⟨gr, 0, none⟩).run Try.prog wx = .ok (.agg #[.int .i64 3, .int .i64 be, .int .i64 bf, .int .i64 bd, .int .i64 0, .slice A9 n c9]) wx := H.loadRow 58 gr row_Berth (P := Try.prog) (by kernel_rfl)
      exact bodyPost_ret (v := .tuple #[.agg #[.int .i64 3, .int .i64 be, .int .i64 bf, .int .i64 bd, .int .i64 0, .slice A9 n c9], .int .i64 0]) (by simp [results, Try.results22, asAddr, l4]) rfl (HF.out _ _ _ hc9 (H.subm _))
    · skip
      have g1a : ((k : Int) == (n : Int)) = false := by simp; omega
      have g1b : decide ((k : Int) = (n : Int)) = false := by simp; omega
      by_cases h4 : br = 4
      · subst h4
        have hR : BM.caughtR ⟨2, be, bf, bd, 4, es⟩ k = (⟨3, be, bf, bd, 0, es⟩, 0) := by
          (unfold BM.caughtR BM.caught; dsimp only; repeat (first | rw [if_pos (by omega)] | rw [if_neg (by omega)]); try rfl)
        rw [hR]
        clear hR
        have HF := Lib.hid (fun W A' c' (h1 : n ≤ c') (h2 : St w0 W (evIt A' es :: I)) => (BPost.mk (r := (⟨3, be, bf, bd, 0, es⟩, 0)) HL.out h1 h2 : BPost w0 I (⟨3, be, bf, bd, 0, es⟩, 0) (.returned (.tuple #[.agg #[.int .i64 3, .int .i64 be, .int .i64 bf, .int .i64 bd, .int .i64 0, .slice A' n c'], .int .i64 0])) W))
        generalize BPost w0 I (⟨3, be, bf, bd, 0, es⟩, 0) = POST at *
        go_enter Try.func22, Try.ntmps22
        clear hfold
        skip
        go_wp2_with (first | (go_at_call 41; have h := HI.out; refine (check_st ⟨2, be, bf, bd, 4, es⟩ A n c m HL.out HB.out hm hc H).mono ?_; clear H h; rintro ed wy ⟨rfl, H⟩) | (go_at_call 44; refine (node_any _ _).mono ?_; rintro ed wy ⟨rfl, rfl⟩) | (go_at_call 45; have h := HI.out; refine (with_nil ⟨3, be, bf, bd, 0, es⟩ A n c HL.out (by omega) hc H).mono ?_; clear H h; rintro ed wy ⟨A9, c9, rfl, hc9, H⟩) | (first | ((with_reducible refine here_load ?_); first | refine ldR H rfl _ _ rfl rfl (by kernel_rfl) ?_ | refine ldS H rfl _ _ rfl rfl (by rfl) ?_ | refine ldSG H (by rfl) _ _ rfl rfl (by rfl) ?_ | refine ldRG H (by rfl) _ _ rfl rfl (by kernel_rfl) ?_) | ((with_reducible refine here_store ?_); first | (refine stR H rfl _ _ _ rfl rfl rfl (by rfl) (by rfl) (by kernel_rfl) ?_; clear H; intro wx H) | (refine stS H rfl _ _ _ rfl rfl _ rfl (by rfl) (by rfl) (by rfl) ?_; clear H; intro wx H)) | ((with_reducible refine here_alloc ?_); first | (refine wpList_alloc_st H rfl 37 rfl _ q_zero ?_; clear H; intro gq wx H) | (refine wpList_alloc_st H rfl 48 rfl _ ans_zero ?_; clear H; intro ga wx H) | (refine wpList_alloc_st H rfl 44 rfl _ ev_zero ?_; clear H; intro ge wx H) | (refine wpList_alloc_st H rfl 58 rfl _ ber_zero ?_; clear H; intro gr wx H)) | ((with_reducible refine here_box ?_); refine wpList_box_st H rfl _ _ rfl _ rfl ?_; clear H; intro gb wx H)))
        have l4 : (loadVar 58 ⟨gr, 0, none⟩).run Try.prog wx = .ok (.agg #[.int .i64 3, .int .i64 be, .int .i64 bf, .int .i64 bd, .int .i64 0, .slice A9 n c9]) wx := H.loadRow 58 gr row_Berth (P := Try.prog) (by kernel_rfl)
        exact bodyPost_ret (v := .tuple #[.agg #[.int .i64 3, .int .i64 be, .int .i64 bf, .int .i64 bd, .int .i64 0, .slice A9 n c9], .int .i64 0]) (by simp [results, Try.results22, asAddr, l4]) rfl (HF.out _ _ _ hc9 (H.subm _))
      · skip
        have g2a : ((br : Int) == 4) = false := by simp; omega
        have g2b : decide ((br : Int) = 4) = false := by simp; omega
        have w1 : IntKind.i64.wrap (br + 1) = br + 1 := IntWalk.i64_in _ (by omega)
        have hR : BM.caughtR ⟨2, be, bf, bd, br, es⟩ k = (⟨2, be, bf, bd, (br + 1), es⟩, 0) := by
          (unfold BM.caughtR BM.caught; dsimp only; repeat (first | rw [if_pos (by omega)] | rw [if_neg (by omega)]); try rfl)
        rw [hR]
        clear hR
        have HF := Lib.hid (fun W A' c' (h1 : n ≤ c') (h2 : St w0 W (evIt A' es :: I)) => (BPost.mk (r := (⟨2, be, bf, bd, (br + 1), es⟩, 0)) HL.out h1 h2 : BPost w0 I (⟨2, be, bf, bd, (br + 1), es⟩, 0) (.returned (.tuple #[.agg #[.int .i64 2, .int .i64 be, .int .i64 bf, .int .i64 bd, .int .i64 (br + 1), .slice A' n c'], .int .i64 0])) W))
        generalize BPost w0 I (⟨2, be, bf, bd, (br + 1), es⟩, 0) = POST at *
        go_enter Try.func22, Try.ntmps22
        clear hfold
        skip
        go_wp2_with (first | (go_at_call 41; have h := HI.out; refine (check_st ⟨2, be, bf, bd, br, es⟩ A n c m HL.out HB.out hm hc H).mono ?_; clear H h; rintro ed wy ⟨rfl, H⟩) | (go_at_call 44; refine (node_any _ _).mono ?_; rintro ed wy ⟨rfl, rfl⟩) | (go_at_call 45; have h := HI.out; refine (with_nil ⟨2, be, bf, bd, (br + 1), es⟩ A n c HL.out (by omega) hc H).mono ?_; clear H h; rintro ed wy ⟨A9, c9, rfl, hc9, H⟩) | (first | ((with_reducible refine here_load ?_); first | refine ldR H rfl _ _ rfl rfl (by kernel_rfl) ?_ | refine ldS H rfl _ _ rfl rfl (by rfl) ?_ | refine ldSG H (by rfl) _ _ rfl rfl (by rfl) ?_ | refine ldRG H (by rfl) _ _ rfl rfl (by kernel_rfl) ?_) | ((with_reducible refine here_store ?_); first | (refine stR H rfl _ _ _ rfl rfl rfl (by rfl) (by rfl) (by kernel_rfl) ?_; clear H; intro wx H) | (refine stS H rfl _ _ _ rfl rfl _ rfl (by rfl) (by rfl) (by rfl) ?_; clear H; intro wx H)) | ((with_reducible refine here_alloc ?_); first | (refine wpList_alloc_st H rfl 37 rfl _ q_zero ?_; clear H; intro gq wx H) | (refine wpList_alloc_st H rfl 48 rfl _ ans_zero ?_; clear H; intro ga wx H) | (refine wpList_alloc_st H rfl 44 rfl _ ev_zero ?_; clear H; intro ge wx H) | (refine wpList_alloc_st H rfl 58 rfl _ ber_zero ?_; clear H; intro gr wx H)) | ((with_reducible refine here_box ?_); refine wpList_box_st H rfl _ _ rfl _ rfl ?_; clear H; intro gb wx H)))
        have l4 : (loadVar 58 ⟨gr, 0, none⟩).run Try.prog wx = .ok (.agg #[.int .i64 2, .int .i64 be, .int .i64 bf, .int .i64 bd, .int .i64 (br + 1), .slice A9 n c9]) wx := H.loadRow 58 gr row_Berth (P := Try.prog) (by kernel_rfl)
        exact bodyPost_ret (v := .tuple #[.agg #[.int .i64 2, .int .i64 be, .int .i64 bf, .int .i64 bd, .int .i64 (br + 1), .slice A9 n c9], .int .i64 0]) (by simp [results, Try.results22, asAddr, l4]) rfl (HF.out _ _ _ hc9 (H.subm _))
  · skip
    by_cases h1 : k < 0
    · skip
      have hR : BM.caughtR ⟨3, be, bf, bd, br, es⟩ k = (⟨0, 0, 0, 0, 0, []⟩, 2) := by
        (unfold BM.caughtR BM.caught; dsimp only; repeat (first | rw [if_pos (by omega)] | rw [if_neg (by omega)]); try rfl)
      rw [hR]
      clear hR
      have HF := Lib.hid (fun W (h2 : St w0 W I) => (BPost.mk (r := (⟨0, 0, 0, 0, 0, []⟩, 2)) (n := 0) (c := 0) (A := none) rfl (Nat.le_refl _) (h2.old (s := 6) (n := 0) (A := none) (xs := []) Reads.none_) : BPost w0 I (⟨0, 0, 0, 0, 0, []⟩, 2) (.returned (.tuple #[.agg #[.int .i64 0, .int .i64 0, .int .i64 0, .int .i64 0, .int .i64 0, .slice none 0 0], .int .i64 2])) W))
      generalize BPost w0 I (⟨0, 0, 0, 0, 0, []⟩, 2) = POST at *
      go_enter Try.func22, Try.ntmps22
      clear hfold
      skip
      go_wp2_with (first | (go_at_call 41; have h := HI.out; refine (check_st ⟨3, be, bf, bd, br, es⟩ A n c m HL.out HB.out hm hc H).mono ?_; clear H h; rintro ed wy ⟨rfl, H⟩) | (go_at_call 44; refine (node_any _ _).mono ?_; rintro ed wy ⟨rfl, rfl⟩) | (first | ((with_reducible refine here_load ?_); first | refine ldR H rfl _ _ rfl rfl (by kernel_rfl) ?_ | refine ldS H rfl _ _ rfl rfl (by rfl) ?_ | refine ldSG H (by rfl) _ _ rfl rfl (by rfl) ?_ | refine ldRG H (by rfl) _ _ rfl rfl (by kernel_rfl) ?_) | ((with_reducible refine here_store ?_); first | (refine stR H rfl _ _ _ rfl rfl rfl (by rfl) (by rfl) (by kernel_rfl) ?_; clear H; intro wx H) | (refine stS H rfl _ _ _ rfl rfl _ rfl (by rfl) (by rfl) (by rfl) ?_; clear H; intro wx H)) | ((with_reducible refine here_alloc ?_); first | (refine wpList_alloc_st H rfl 37 rfl _ q_zero ?_; clear H; intro gq wx H) | (refine wpList_alloc_st H rfl 48 rfl _ ans_zero ?_; clear H; intro ga wx H) | (refine wpList_alloc_st H rfl 44 rfl _ ev_zero ?_; clear H; intro ge wx H) | (refine wpList_alloc_st H rfl 58 rfl _ ber_zero ?_; clear H; intro gr wx H)) | ((with_reducible refine here_box ?_); refine wpList_box_st H rfl _ _ rfl _ rfl ?_; clear H; intro gb wx H)))
      have l4 : (loadVar 58 ⟨gr, 0, none⟩).run Try.prog wx = .ok (.agg #[.int .i64 0, .int .i64 0, .int .i64 0, .int .i64 0, .int .i64 0, .slice none 0 0]) wx := H.loadRow 58 gr row_Berth (P := Try.prog) (by kernel_rfl)
      exact bodyPost_ret (v := .tuple #[.agg #[.int .i64 0, .int .i64 0, .int .i64 0, .int .i64 0, .int .i64 0, .slice none 0 0], .int .i64 2]) (by simp [results, Try.results22, asAddr, l4]) rfl (HF.out _ (H.subm _))
    have d1 : decide (k < 0) = false := decide_eq_false h1
    by_cases h2 : (n : Int) < k
    · have d2 := decide_eq_true h2
      have hR : BM.caughtR ⟨3, be, bf, bd, br, es⟩ k = (⟨0, 0, 0, 0, 0, []⟩, 2) := by
        (unfold BM.caughtR BM.caught; dsimp only; repeat (first | rw [if_pos (by omega)] | rw [if_neg (by omega)]); try rfl)
      rw [hR]
      clear hR
      have HF := Lib.hid (fun W (h2 : St w0 W I) => (BPost.mk (r := (⟨0, 0, 0, 0, 0, []⟩, 2)) (n := 0) (c := 0) (A := none) rfl (Nat.le_refl _) (h2.old (s := 6) (n := 0) (A := none) (xs := []) Reads.none_) : BPost w0 I (⟨0, 0, 0, 0, 0, []⟩, 2) (.returned (.tuple #[.agg #[.int .i64 0, .int .i64 0, .int .i64 0, .int .i64 0, .int .i64 0, .slice none 0 0], .int .i64 2])) W))
      generalize BPost w0 I (⟨0, 0, 0, 0, 0, []⟩, 2) = POST at *
      go_enter Try.func22, Try.ntmps22
      clear hfold
      skip
      go_wp2_with (first | (go_at_call 41; have h := HI.out; refine (check_st ⟨3, be, bf, bd, br, es⟩ A n c m HL.out HB.out hm hc H).mono ?_; clear H h; rintro ed wy ⟨rfl, H⟩) | (go_at_call 44; refine (node_any _ _).mono ?_; rintro ed wy ⟨rfl, rfl⟩) | (first | ((with_reducible refine here_load ?_); first | refine ldR H rfl _ _ rfl rfl (by kernel_rfl) ?_ | refine ldS H rfl _ _ rfl rfl (by rfl) ?_ | refine ldSG H (by rfl) _ _ rfl rfl (by rfl) ?_ | refine ldRG H (by rfl) _ _ rfl rfl (by kernel_rfl) ?_) | ((with_reducible refine here_store ?_); first | (refine stR H rfl _ _ _ rfl rfl rfl (by rfl) (by rfl) (by kernel_rfl) ?_; clear H; intro wx H) | (refine stS H rfl _ _ _ rfl rfl _ rfl (by rfl) (by rfl) (by rfl) ?_; clear H; intro wx H)) | ((with_reducible refine here_alloc ?_); first | (refine wpList_alloc_st H rfl 37 rfl _ q_zero ?_; clear H; intro gq wx H) | (refine wpList_alloc_st H rfl 48 rfl _ ans_zero ?_; clear H; intro ga wx H) | (refine wpList_alloc_st H rfl 44 rfl _ ev_zero ?_; clear H; intro ge wx H) | (refine wpList_alloc_st H rfl 58 rfl _ ber_zero ?_; clear H; intro gr wx H)) | ((with_reducible refine here_box ?_); refine wpList_box_st H rfl _ _ rfl _ rfl ?_; clear H; intro gb wx H)))
      have l4 : (loadVar 58 ⟨gr, 0, none⟩).run Try.prog wx = .ok (.agg #[.int .i64 0, .int .i64 0, .int .i64 0, .int .i64 0, .int .i64 0, .slice none 0 0]) wx := H.loadRow 58 gr row_Berth (P := Try.prog) (by kernel_rfl)
      exact bodyPost_ret (v := .tuple #[.agg #[.int .i64 0, .int .i64 0, .int .i64 0, .int .i64 0, .int .i64 0, .slice none 0 0], .int .i64 2]) (by simp [results, Try.results22, asAddr, l4]) rfl (HF.out _ (H.subm _))
    have d2 := decide_eq_false h2
    have hR : BM.caughtR ⟨3, be, bf, bd, br, es⟩ k = (⟨3, be, bf, bd, br, es⟩, 0) := by
      (unfold BM.caughtR BM.caught; dsimp only; repeat (first | rw [if_pos (by omega)] | rw [if_neg (by omega)]); try rfl)
    rw [hR]
    clear hR
    have HF := Lib.hid (fun W A' c' (h1 : n ≤ c') (h2 : St w0 W (evIt A' es :: I)) => (BPost.mk (r := (⟨3, be, bf, bd, br, es⟩, 0)) HL.out h1 h2 : BPost w0 I (⟨3, be, bf, bd, br, es⟩, 0) (.returned (.tuple #[.agg #[.int .i64 3, .int .i64 be, .int .i64 bf, .int .i64 bd, .int .i64 br, .slice A' n c'], .int .i64 0])) W))
    generalize BPost w0 I (⟨3, be, bf, bd, br, es⟩, 0) = POST at *
    go_enter Try.func22, Try.ntmps22
    clear hfold
    skip
    go_wp2_with (first | (go_at_call 41; have h := HI.out; refine (check_st ⟨3, be, bf, bd, br, es⟩ A n c m HL.out HB.out hm hc H).mono ?_; clear H h; rintro ed wy ⟨rfl, H⟩) | (go_at_call 44; refine (node_any _ _).mono ?_; rintro ed wy ⟨rfl, rfl⟩) | (go_at_call 45; have h := HI.out; refine (with_nil ⟨3, be, bf, bd, br, es⟩ A n c HL.out (by omega) hc H).mono ?_; clear H h; rintro ed wy ⟨A9, c9, rfl, hc9, H⟩) | (first | ((with_reducible refine here_load ?_); first | refine ldR H rfl _ _ rfl rfl (by kernel_rfl) ?_ | refine ldS H rfl _ _ rfl rfl (by rfl) ?_ | refine ldSG H (by rfl) _ _ rfl rfl (by rfl) ?_ | refine ldRG H (by rfl) _ _ rfl rfl (by kernel_rfl) ?_) | ((with_reducible refine here_store ?_); first | (refine stR H rfl _ _ _ rfl rfl rfl (by rfl) (by rfl) (by kernel_rfl) ?_; clear H; intro wx H) | (refine stS H rfl _ _ _ rfl rfl _ rfl (by rfl) (by rfl) (by rfl) ?_; clear H; intro wx H)) | ((with_reducible refine here_alloc ?_); first | (refine wpList_alloc_st H rfl 37 rfl _ q_zero ?_; clear H; intro gq wx H) | (refine wpList_alloc_st H rfl 48 rfl _ ans_zero ?_; clear H; intro ga wx H) | (refine wpList_alloc_st H rfl 44 rfl _ ev_zero ?_; clear H; intro ge wx H) | (refine wpList_alloc_st H rfl 58 rfl _ ber_zero ?_; clear H; intro gr wx H)) | ((with_reducible refine here_box ?_); refine wpList_box_st H rfl _ _ rfl _ rfl ?_; clear H; intro gb wx H)))
    have l4 : (loadVar 58 ⟨gr, 0, none⟩).run Try.prog wx = .ok (.agg #[.int .i64 3, .int .i64 be, .int .i64 bf, .int .i64 bd, .int .i64 br, .slice A9 n c9]) wx := H.loadRow 58 gr row_Berth (P := Try.prog) (by kernel_rfl)
    exact bodyPost_ret (v := .tuple #[.agg #[.int .i64 3, .int .i64 be, .int .i64 bf, .int .i64 bd, .int .i64 br, .slice A9 n c9], .int .i64 0]) (by simp [results, Try.results22, asAddr, l4]) rfl (HF.out _ _ _ hc9 (H.subm _))
  · skip
    have hR : BM.caughtR ⟨4, be, bf, bd, br, es⟩ k = (⟨0, 0, 0, 0, 0, []⟩, 7) := by
      (unfold BM.caughtR BM.caught; dsimp only; repeat (first | rw [if_pos (by omega)] | rw [if_neg (by omega)]); try rfl)
    rw [hR]
    clear hR
    have HF := Lib.hid (fun W (h2 : St w0 W I) => (BPost.mk (r := (⟨0, 0, 0, 0, 0, []⟩, 7)) (n := 0) (c := 0) (A := none) rfl (Nat.le_refl _) (h2.old (s := 6) (n := 0) (A := none) (xs := []) Reads.none_) : BPost w0 I (⟨0, 0, 0, 0, 0, []⟩, 7) (.returned (.tuple #[.agg #[.int .i64 0, .int .i64 0, .int .i64 0, .int .i64 0, .int .i64 0, .slice none 0 0], .int .i64 7])) W))
    generalize BPost w0 I (⟨0, 0, 0, 0, 0, []⟩, 7) = POST at *
    go_enter Try.func22, Try.ntmps22
    clear hfold
    skip
    go_wp2_with (first | (go_at_call 41; have h := HI.out; refine (check_st ⟨4, be, bf, bd, br, es⟩ A n c m HL.out HB.out hm hc H).mono ?_; clear H h; rintro ed wy ⟨rfl, H⟩) | (go_at_call 44; refine (node_any _ _).mono ?_; rintro ed wy ⟨rfl, rfl⟩) | (first | ((with_reducible refine here_load ?_); first | refine ldR H rfl _ _ rfl rfl (by kernel_rfl) ?_ | refine ldS H rfl _ _ rfl rfl (by rfl) ?_ | refine ldSG H (by rfl) _ _ rfl rfl (by rfl) ?_ | refine ldRG H (by rfl) _ _ rfl rfl (by kernel_rfl) ?_) | ((with_reducible refine here_store ?_); first | (refine stR H rfl _ _ _ rfl rfl rfl (by rfl) (by rfl) (by kernel_rfl) ?_; clear H; intro wx H) | (refine stS H rfl _ _ _ rfl rfl _ rfl (by rfl) (by rfl) (by rfl) ?_; clear H; intro wx H)) | ((with_reducible refine here_alloc ?_); first | (refine wpList_alloc_st H rfl 37 rfl _ q_zero ?_; clear H; intro gq wx H) | (refine wpList_alloc_st H rfl 48 rfl _ ans_zero ?_; clear H; intro ga wx H) | (refine wpList_alloc_st H rfl 44 rfl _ ev_zero ?_; clear H; intro ge wx H) | (refine wpList_alloc_st H rfl 58 rfl _ ber_zero ?_; clear H; intro gr wx H)) | ((with_reducible refine here_box ?_); refine wpList_box_st H rfl _ _ rfl _ rfl ?_; clear H; intro gb wx H)))
    have l4 : (loadVar 58 ⟨gr, 0, none⟩).run Try.prog wx = .ok (.agg #[.int .i64 0, .int .i64 0, .int .i64 0, .int .i64 0, .int .i64 0, .slice none 0 0]) wx := H.loadRow 58 gr row_Berth (P := Try.prog) (by kernel_rfl)
    exact bodyPost_ret (v := .tuple #[.agg #[.int .i64 0, .int .i64 0, .int .i64 0, .int .i64 0, .int .i64 0, .slice none 0 0], .int .i64 7]) (by simp [results, Try.results22, asAddr, l4]) rfl (HF.out _ (H.subm _))
set_option maxRecDepth 100000 in
set_option maxHeartbeats 8000000 in
theorem begin_st {w0 w : World} {I : List It} (b : BM) (A : Option Addr) (n c m : Nat) (ep fr : Int) (hl : b.es.length = n) (hb : b.Ok m) (hm : m ≤ 150) (hc : n ≤ c) (H : St w0 w I) [h : Has I (evIt A b.es)] :
    Calls Try.prog 46 #[.agg (bArr b A n c), .int .i64 ep, .int .i64 fr] w (BPost w0 I (b.beginR ep fr)) := by
  have hn : n ≤ 150 := by have := hb.len; omega
  have HI := Lib.hid h
  have HB := Lib.hid hb
  have HL := Lib.hid hl
  have HS := hb.shape
  clear h hb hl
  have hfold : bArr b A n c = #[Value.int .i64 b.role, .int .i64 b.ep, .int .i64 b.frm, .int .i64 b.dst, .int .i64 b.rounds, .slice A n c] := rfl
  rw [hfold]
  obtain ⟨r, be, bf, bd, br, es⟩ := b
  unfold BM.Shape at HS
  dsimp only at HS HB HL HI ⊢
  by_cases h1 : ep < 1
  · skip
    have hR : BM.beginR ⟨r, be, bf, bd, br, es⟩ ep fr = (⟨0, 0, 0, 0, 0, []⟩, 2) := by
      (unfold BM.beginR; dsimp only; repeat (first | rw [if_pos (by omega)] | rw [if_neg (by omega)]); try rfl)
    rw [hR]
    clear hR
    have HF := Lib.hid (fun W (h2 : St w0 W I) => (BPost.mk (r := (⟨0, 0, 0, 0, 0, []⟩, 2)) (n := 0) (c := 0) (A := none) rfl (Nat.le_refl _) (h2.old (s := 6) (n := 0) (A := none) (xs := []) Reads.none_) : BPost w0 I (⟨0, 0, 0, 0, 0, []⟩, 2) (.returned (.tuple #[.agg #[.int .i64 0, .int .i64 0, .int .i64 0, .int .i64 0, .int .i64 0, .slice none 0 0], .int .i64 2])) W))
    generalize BPost w0 I (⟨0, 0, 0, 0, 0, []⟩, 2) = POST at *
    go_enter Try.func46, Try.ntmps46
    clear hfold
    skip
    go_wp2_with (first | (go_at_call 41; have h := HI.out; refine (check_st ⟨r, be, bf, bd, br, es⟩ A n c m HL.out HB.out hm hc H).mono ?_; clear H h; rintro ed wy ⟨rfl, H⟩) | (go_at_call 44; refine (node_any _ _).mono ?_; rintro ed wy ⟨rfl, rfl⟩) | (first | ((with_reducible refine here_load ?_); first | refine ldR H rfl _ _ rfl rfl (by kernel_rfl) ?_ | refine ldS H rfl _ _ rfl rfl (by rfl) ?_ | refine ldSG H (by rfl) _ _ rfl rfl (by rfl) ?_ | refine ldRG H (by rfl) _ _ rfl rfl (by kernel_rfl) ?_) | ((with_reducible refine here_store ?_); first | (refine stR H rfl _ _ _ rfl rfl rfl (by rfl) (by rfl) (by kernel_rfl) ?_; clear H; intro wx H) | (refine stS H rfl _ _ _ rfl rfl _ rfl (by rfl) (by rfl) (by rfl) ?_; clear H; intro wx H)) | ((with_reducible refine here_alloc ?_); first | (refine wpList_alloc_st H rfl 37 rfl _ q_zero ?_; clear H; intro gq wx H) | (refine wpList_alloc_st H rfl 48 rfl _ ans_zero ?_; clear H; intro ga wx H) | (refine wpList_alloc_st H rfl 44 rfl _ ev_zero ?_; clear H; intro ge wx H) | (refine wpList_alloc_st H rfl 58 rfl _ ber_zero ?_; clear H; intro gr wx H)) | ((with_reducible refine here_box ?_); refine wpList_box_st H rfl _ _ rfl _ rfl ?_; clear H; intro gb wx H)))
    have l4 : (loadVar 58 ⟨gr, 0, none⟩).run Try.prog wx = .ok (.agg #[.int .i64 0, .int .i64 0, .int .i64 0, .int .i64 0, .int .i64 0, .slice none 0 0]) wx := H.loadRow 58 gr row_Berth (P := Try.prog) (by kernel_rfl)
    exact bodyPost_ret (v := .tuple #[.agg #[.int .i64 0, .int .i64 0, .int .i64 0, .int .i64 0, .int .i64 0, .slice none 0 0], .int .i64 2]) (by simp [results, Try.results46, asAddr, l4]) rfl (HF.out _ (H.subm _))
  by_cases h2 : 1048576 < ep
  · skip
    have hR : BM.beginR ⟨r, be, bf, bd, br, es⟩ ep fr = (⟨0, 0, 0, 0, 0, []⟩, 2) := by
      (unfold BM.beginR; dsimp only; repeat (first | rw [if_pos (by omega)] | rw [if_neg (by omega)]); try rfl)
    rw [hR]
    clear hR
    have HF := Lib.hid (fun W (h2 : St w0 W I) => (BPost.mk (r := (⟨0, 0, 0, 0, 0, []⟩, 2)) (n := 0) (c := 0) (A := none) rfl (Nat.le_refl _) (h2.old (s := 6) (n := 0) (A := none) (xs := []) Reads.none_) : BPost w0 I (⟨0, 0, 0, 0, 0, []⟩, 2) (.returned (.tuple #[.agg #[.int .i64 0, .int .i64 0, .int .i64 0, .int .i64 0, .int .i64 0, .slice none 0 0], .int .i64 2])) W))
    generalize BPost w0 I (⟨0, 0, 0, 0, 0, []⟩, 2) = POST at *
    go_enter Try.func46, Try.ntmps46
    clear hfold
    skip
    go_wp2_with (first | (go_at_call 41; have h := HI.out; refine (check_st ⟨r, be, bf, bd, br, es⟩ A n c m HL.out HB.out hm hc H).mono ?_; clear H h; rintro ed wy ⟨rfl, H⟩) | (go_at_call 44; refine (node_any _ _).mono ?_; rintro ed wy ⟨rfl, rfl⟩) | (first | ((with_reducible refine here_load ?_); first | refine ldR H rfl _ _ rfl rfl (by kernel_rfl) ?_ | refine ldS H rfl _ _ rfl rfl (by rfl) ?_ | refine ldSG H (by rfl) _ _ rfl rfl (by rfl) ?_ | refine ldRG H (by rfl) _ _ rfl rfl (by kernel_rfl) ?_) | ((with_reducible refine here_store ?_); first | (refine stR H rfl _ _ _ rfl rfl rfl (by rfl) (by rfl) (by kernel_rfl) ?_; clear H; intro wx H) | (refine stS H rfl _ _ _ rfl rfl _ rfl (by rfl) (by rfl) (by rfl) ?_; clear H; intro wx H)) | ((with_reducible refine here_alloc ?_); first | (refine wpList_alloc_st H rfl 37 rfl _ q_zero ?_; clear H; intro gq wx H) | (refine wpList_alloc_st H rfl 48 rfl _ ans_zero ?_; clear H; intro ga wx H) | (refine wpList_alloc_st H rfl 44 rfl _ ev_zero ?_; clear H; intro ge wx H) | (refine wpList_alloc_st H rfl 58 rfl _ ber_zero ?_; clear H; intro gr wx H)) | ((with_reducible refine here_box ?_); refine wpList_box_st H rfl _ _ rfl _ rfl ?_; clear H; intro gb wx H)))
    have l4 : (loadVar 58 ⟨gr, 0, none⟩).run Try.prog wx = .ok (.agg #[.int .i64 0, .int .i64 0, .int .i64 0, .int .i64 0, .int .i64 0, .slice none 0 0]) wx := H.loadRow 58 gr row_Berth (P := Try.prog) (by kernel_rfl)
    exact bodyPost_ret (v := .tuple #[.agg #[.int .i64 0, .int .i64 0, .int .i64 0, .int .i64 0, .int .i64 0, .slice none 0 0], .int .i64 2]) (by simp [results, Try.results46, asAddr, l4]) rfl (HF.out _ (H.subm _))
  by_cases h3 : 0 ≤ fr ∧ fr < 5
  · have h3d := decide_eq_true h3
    have HR : r = 0 ∨ r = 1 ∨ r = 2 ∨ r = 3 ∨ r = 4 := by omega
    rcases HR with rfl | rfl | rfl | rfl | rfl
    · skip
      by_cases h4 : ep ≤ be
      · skip
        have hR : BM.beginR ⟨0, be, bf, bd, br, es⟩ ep fr = (⟨0, 0, 0, 0, 0, []⟩, 15) := by
          (unfold BM.beginR; dsimp only; repeat (first | rw [if_pos (by omega)] | rw [if_neg (by omega)]); try rfl)
        rw [hR]
        clear hR
        have HF := Lib.hid (fun W (h2 : St w0 W I) => (BPost.mk (r := (⟨0, 0, 0, 0, 0, []⟩, 15)) (n := 0) (c := 0) (A := none) rfl (Nat.le_refl _) (h2.old (s := 6) (n := 0) (A := none) (xs := []) Reads.none_) : BPost w0 I (⟨0, 0, 0, 0, 0, []⟩, 15) (.returned (.tuple #[.agg #[.int .i64 0, .int .i64 0, .int .i64 0, .int .i64 0, .int .i64 0, .slice none 0 0], .int .i64 15])) W))
        generalize BPost w0 I (⟨0, 0, 0, 0, 0, []⟩, 15) = POST at *
        go_enter Try.func46, Try.ntmps46
        clear hfold
        skip
        go_wp2_with (first | (go_at_call 41; have h := HI.out; refine (check_st ⟨0, be, bf, bd, br, es⟩ A n c m HL.out HB.out hm hc H).mono ?_; clear H h; rintro ed wy ⟨rfl, H⟩) | (go_at_call 44; refine (node_any _ _).mono ?_; rintro ed wy ⟨rfl, rfl⟩) | (first | ((with_reducible refine here_load ?_); first | refine ldR H rfl _ _ rfl rfl (by kernel_rfl) ?_ | refine ldS H rfl _ _ rfl rfl (by rfl) ?_ | refine ldSG H (by rfl) _ _ rfl rfl (by rfl) ?_ | refine ldRG H (by rfl) _ _ rfl rfl (by kernel_rfl) ?_) | ((with_reducible refine here_store ?_); first | (refine stR H rfl _ _ _ rfl rfl rfl (by rfl) (by rfl) (by kernel_rfl) ?_; clear H; intro wx H) | (refine stS H rfl _ _ _ rfl rfl _ rfl (by rfl) (by rfl) (by rfl) ?_; clear H; intro wx H)) | ((with_reducible refine here_alloc ?_); first | (refine wpList_alloc_st H rfl 37 rfl _ q_zero ?_; clear H; intro gq wx H) | (refine wpList_alloc_st H rfl 48 rfl _ ans_zero ?_; clear H; intro ga wx H) | (refine wpList_alloc_st H rfl 44 rfl _ ev_zero ?_; clear H; intro ge wx H) | (refine wpList_alloc_st H rfl 58 rfl _ ber_zero ?_; clear H; intro gr wx H)) | ((with_reducible refine here_box ?_); refine wpList_box_st H rfl _ _ rfl _ rfl ?_; clear H; intro gb wx H)))
        have l4 : (loadVar 58 ⟨gr, 0, none⟩).run Try.prog wx = .ok (.agg #[.int .i64 0, .int .i64 0, .int .i64 0, .int .i64 0, .int .i64 0, .slice none 0 0]) wx := H.loadRow 58 gr row_Berth (P := Try.prog) (by kernel_rfl)
        exact bodyPost_ret (v := .tuple #[.agg #[.int .i64 0, .int .i64 0, .int .i64 0, .int .i64 0, .int .i64 0, .slice none 0 0], .int .i64 15]) (by simp [results, Try.results46, asAddr, l4]) rfl (HF.out _ (H.subm _))
      · skip
        have hR : BM.beginR ⟨0, be, bf, bd, br, es⟩ ep fr = (⟨4, ep, fr, 0, 0, []⟩, 0) := by
          (unfold BM.beginR; dsimp only; repeat (first | rw [if_pos (by omega)] | rw [if_neg (by omega)]); try rfl)
        rw [hR]
        clear hR
        have HF := Lib.hid (fun W (h2 : St w0 W I) => (BPost.mk (r := (⟨4, ep, fr, 0, 0, []⟩, 0)) (n := 0) (c := 0) (A := none) rfl (Nat.le_refl _) (h2.old (s := 6) (n := 0) (A := none) (xs := []) Reads.none_) : BPost w0 I (⟨4, ep, fr, 0, 0, []⟩, 0) (.returned (.tuple #[.agg #[.int .i64 4, .int .i64 ep, .int .i64 fr, .int .i64 0, .int .i64 0, .slice none 0 0], .int .i64 0])) W))
        generalize BPost w0 I (⟨4, ep, fr, 0, 0, []⟩, 0) = POST at *
        go_enter Try.func46, Try.ntmps46
        clear hfold
        skip
        go_wp2_with (first | (go_at_call 41; have h := HI.out; refine (check_st ⟨0, be, bf, bd, br, es⟩ A n c m HL.out HB.out hm hc H).mono ?_; clear H h; rintro ed wy ⟨rfl, H⟩) | (go_at_call 44; refine (node_any _ _).mono ?_; rintro ed wy ⟨rfl, rfl⟩) | (first | ((with_reducible refine here_load ?_); first | refine ldR H rfl _ _ rfl rfl (by kernel_rfl) ?_ | refine ldS H rfl _ _ rfl rfl (by rfl) ?_ | refine ldSG H (by rfl) _ _ rfl rfl (by rfl) ?_ | refine ldRG H (by rfl) _ _ rfl rfl (by kernel_rfl) ?_) | ((with_reducible refine here_store ?_); first | (refine stR H rfl _ _ _ rfl rfl rfl (by rfl) (by rfl) (by kernel_rfl) ?_; clear H; intro wx H) | (refine stS H rfl _ _ _ rfl rfl _ rfl (by rfl) (by rfl) (by rfl) ?_; clear H; intro wx H)) | ((with_reducible refine here_alloc ?_); first | (refine wpList_alloc_st H rfl 37 rfl _ q_zero ?_; clear H; intro gq wx H) | (refine wpList_alloc_st H rfl 48 rfl _ ans_zero ?_; clear H; intro ga wx H) | (refine wpList_alloc_st H rfl 44 rfl _ ev_zero ?_; clear H; intro ge wx H) | (refine wpList_alloc_st H rfl 58 rfl _ ber_zero ?_; clear H; intro gr wx H)) | ((with_reducible refine here_box ?_); refine wpList_box_st H rfl _ _ rfl _ rfl ?_; clear H; intro gb wx H)))
        have l4 : (loadVar 58 ⟨gr, 0, none⟩).run Try.prog wx = .ok (.agg #[.int .i64 4, .int .i64 ep, .int .i64 fr, .int .i64 0, .int .i64 0, .slice none 0 0]) wx := H.loadRow 58 gr row_Berth (P := Try.prog) (by kernel_rfl)
        exact bodyPost_ret (v := .tuple #[.agg #[.int .i64 4, .int .i64 ep, .int .i64 fr, .int .i64 0, .int .i64 0, .slice none 0 0], .int .i64 0]) (by simp [results, Try.results46, asAddr, l4]) rfl (HF.out _ (H.subm _))
    · skip
      have hR : BM.beginR ⟨1, be, bf, bd, br, es⟩ ep fr = (⟨0, 0, 0, 0, 0, []⟩, 8) := by
        (unfold BM.beginR; dsimp only; repeat (first | rw [if_pos (by omega)] | rw [if_neg (by omega)]); try rfl)
      rw [hR]
      clear hR
      have HF := Lib.hid (fun W (h2 : St w0 W I) => (BPost.mk (r := (⟨0, 0, 0, 0, 0, []⟩, 8)) (n := 0) (c := 0) (A := none) rfl (Nat.le_refl _) (h2.old (s := 6) (n := 0) (A := none) (xs := []) Reads.none_) : BPost w0 I (⟨0, 0, 0, 0, 0, []⟩, 8) (.returned (.tuple #[.agg #[.int .i64 0, .int .i64 0, .int .i64 0, .int .i64 0, .int .i64 0, .slice none 0 0], .int .i64 8])) W))
      generalize BPost w0 I (⟨0, 0, 0, 0, 0, []⟩, 8) = POST at *
      go_enter Try.func46, Try.ntmps46
      clear hfold
      skip
      go_wp2_with (first | (go_at_call 41; have h := HI.out; refine (check_st ⟨1, be, bf, bd, br, es⟩ A n c m HL.out HB.out hm hc H).mono ?_; clear H h; rintro ed wy ⟨rfl, H⟩) | (go_at_call 44; refine (node_any _ _).mono ?_; rintro ed wy ⟨rfl, rfl⟩) | (first | ((with_reducible refine here_load ?_); first | refine ldR H rfl _ _ rfl rfl (by kernel_rfl) ?_ | refine ldS H rfl _ _ rfl rfl (by rfl) ?_ | refine ldSG H (by rfl) _ _ rfl rfl (by rfl) ?_ | refine ldRG H (by rfl) _ _ rfl rfl (by kernel_rfl) ?_) | ((with_reducible refine here_store ?_); first | (refine stR H rfl _ _ _ rfl rfl rfl (by rfl) (by rfl) (by kernel_rfl) ?_; clear H; intro wx H) | (refine stS H rfl _ _ _ rfl rfl _ rfl (by rfl) (by rfl) (by rfl) ?_; clear H; intro wx H)) | ((with_reducible refine here_alloc ?_); first | (refine wpList_alloc_st H rfl 37 rfl _ q_zero ?_; clear H; intro gq wx H) | (refine wpList_alloc_st H rfl 48 rfl _ ans_zero ?_; clear H; intro ga wx H) | (refine wpList_alloc_st H rfl 44 rfl _ ev_zero ?_; clear H; intro ge wx H) | (refine wpList_alloc_st H rfl 58 rfl _ ber_zero ?_; clear H; intro gr wx H)) | ((with_reducible refine here_box ?_); refine wpList_box_st H rfl _ _ rfl _ rfl ?_; clear H; intro gb wx H)))
      have l4 : (loadVar 58 ⟨gr, 0, none⟩).run Try.prog wx = .ok (.agg #[.int .i64 0, .int .i64 0, .int .i64 0, .int .i64 0, .int .i64 0, .slice none 0 0]) wx := H.loadRow 58 gr row_Berth (P := Try.prog) (by kernel_rfl)
      exact bodyPost_ret (v := .tuple #[.agg #[.int .i64 0, .int .i64 0, .int .i64 0, .int .i64 0, .int .i64 0, .slice none 0 0], .int .i64 8]) (by simp [results, Try.results46, asAddr, l4]) rfl (HF.out _ (H.subm _))
    · skip
      have hR : BM.beginR ⟨2, be, bf, bd, br, es⟩ ep fr = (⟨0, 0, 0, 0, 0, []⟩, 8) := by
        (unfold BM.beginR; dsimp only; repeat (first | rw [if_pos (by omega)] | rw [if_neg (by omega)]); try rfl)
      rw [hR]
      clear hR
      have HF := Lib.hid (fun W (h2 : St w0 W I) => (BPost.mk (r := (⟨0, 0, 0, 0, 0, []⟩, 8)) (n := 0) (c := 0) (A := none) rfl (Nat.le_refl _) (h2.old (s := 6) (n := 0) (A := none) (xs := []) Reads.none_) : BPost w0 I (⟨0, 0, 0, 0, 0, []⟩, 8) (.returned (.tuple #[.agg #[.int .i64 0, .int .i64 0, .int .i64 0, .int .i64 0, .int .i64 0, .slice none 0 0], .int .i64 8])) W))
      generalize BPost w0 I (⟨0, 0, 0, 0, 0, []⟩, 8) = POST at *
      go_enter Try.func46, Try.ntmps46
      clear hfold
      skip
      go_wp2_with (first | (go_at_call 41; have h := HI.out; refine (check_st ⟨2, be, bf, bd, br, es⟩ A n c m HL.out HB.out hm hc H).mono ?_; clear H h; rintro ed wy ⟨rfl, H⟩) | (go_at_call 44; refine (node_any _ _).mono ?_; rintro ed wy ⟨rfl, rfl⟩) | (first | ((with_reducible refine here_load ?_); first | refine ldR H rfl _ _ rfl rfl (by kernel_rfl) ?_ | refine ldS H rfl _ _ rfl rfl (by rfl) ?_ | refine ldSG H (by rfl) _ _ rfl rfl (by rfl) ?_ | refine ldRG H (by rfl) _ _ rfl rfl (by kernel_rfl) ?_) | ((with_reducible refine here_store ?_); first | (refine stR H rfl _ _ _ rfl rfl rfl (by rfl) (by rfl) (by kernel_rfl) ?_; clear H; intro wx H) | (refine stS H rfl _ _ _ rfl rfl _ rfl (by rfl) (by rfl) (by rfl) ?_; clear H; intro wx H)) | ((with_reducible refine here_alloc ?_); first | (refine wpList_alloc_st H rfl 37 rfl _ q_zero ?_; clear H; intro gq wx H) | (refine wpList_alloc_st H rfl 48 rfl _ ans_zero ?_; clear H; intro ga wx H) | (refine wpList_alloc_st H rfl 44 rfl _ ev_zero ?_; clear H; intro ge wx H) | (refine wpList_alloc_st H rfl 58 rfl _ ber_zero ?_; clear H; intro gr wx H)) | ((with_reducible refine here_box ?_); refine wpList_box_st H rfl _ _ rfl _ rfl ?_; clear H; intro gb wx H)))
      have l4 : (loadVar 58 ⟨gr, 0, none⟩).run Try.prog wx = .ok (.agg #[.int .i64 0, .int .i64 0, .int .i64 0, .int .i64 0, .int .i64 0, .slice none 0 0]) wx := H.loadRow 58 gr row_Berth (P := Try.prog) (by kernel_rfl)
      exact bodyPost_ret (v := .tuple #[.agg #[.int .i64 0, .int .i64 0, .int .i64 0, .int .i64 0, .int .i64 0, .slice none 0 0], .int .i64 8]) (by simp [results, Try.results46, asAddr, l4]) rfl (HF.out _ (H.subm _))
    · skip
      have hR : BM.beginR ⟨3, be, bf, bd, br, es⟩ ep fr = (⟨0, 0, 0, 0, 0, []⟩, 8) := by
        (unfold BM.beginR; dsimp only; repeat (first | rw [if_pos (by omega)] | rw [if_neg (by omega)]); try rfl)
      rw [hR]
      clear hR
      have HF := Lib.hid (fun W (h2 : St w0 W I) => (BPost.mk (r := (⟨0, 0, 0, 0, 0, []⟩, 8)) (n := 0) (c := 0) (A := none) rfl (Nat.le_refl _) (h2.old (s := 6) (n := 0) (A := none) (xs := []) Reads.none_) : BPost w0 I (⟨0, 0, 0, 0, 0, []⟩, 8) (.returned (.tuple #[.agg #[.int .i64 0, .int .i64 0, .int .i64 0, .int .i64 0, .int .i64 0, .slice none 0 0], .int .i64 8])) W))
      generalize BPost w0 I (⟨0, 0, 0, 0, 0, []⟩, 8) = POST at *
      go_enter Try.func46, Try.ntmps46
      clear hfold
      skip
      go_wp2_with (first | (go_at_call 41; have h := HI.out; refine (check_st ⟨3, be, bf, bd, br, es⟩ A n c m HL.out HB.out hm hc H).mono ?_; clear H h; rintro ed wy ⟨rfl, H⟩) | (go_at_call 44; refine (node_any _ _).mono ?_; rintro ed wy ⟨rfl, rfl⟩) | (first | ((with_reducible refine here_load ?_); first | refine ldR H rfl _ _ rfl rfl (by kernel_rfl) ?_ | refine ldS H rfl _ _ rfl rfl (by rfl) ?_ | refine ldSG H (by rfl) _ _ rfl rfl (by rfl) ?_ | refine ldRG H (by rfl) _ _ rfl rfl (by kernel_rfl) ?_) | ((with_reducible refine here_store ?_); first | (refine stR H rfl _ _ _ rfl rfl rfl (by rfl) (by rfl) (by kernel_rfl) ?_; clear H; intro wx H) | (refine stS H rfl _ _ _ rfl rfl _ rfl (by rfl) (by rfl) (by rfl) ?_; clear H; intro wx H)) | ((with_reducible refine here_alloc ?_); first | (refine wpList_alloc_st H rfl 37 rfl _ q_zero ?_; clear H; intro gq wx H) | (refine wpList_alloc_st H rfl 48 rfl _ ans_zero ?_; clear H; intro ga wx H) | (refine wpList_alloc_st H rfl 44 rfl _ ev_zero ?_; clear H; intro ge wx H) | (refine wpList_alloc_st H rfl 58 rfl _ ber_zero ?_; clear H; intro gr wx H)) | ((with_reducible refine here_box ?_); refine wpList_box_st H rfl _ _ rfl _ rfl ?_; clear H; intro gb wx H)))
      have l4 : (loadVar 58 ⟨gr, 0, none⟩).run Try.prog wx = .ok (.agg #[.int .i64 0, .int .i64 0, .int .i64 0, .int .i64 0, .int .i64 0, .slice none 0 0]) wx := H.loadRow 58 gr row_Berth (P := Try.prog) (by kernel_rfl)
      exact bodyPost_ret (v := .tuple #[.agg #[.int .i64 0, .int .i64 0, .int .i64 0, .int .i64 0, .int .i64 0, .slice none 0 0], .int .i64 8]) (by simp [results, Try.results46, asAddr, l4]) rfl (HF.out _ (H.subm _))
    · skip
      by_cases h5 : be = ep
      · subst h5
        by_cases h6 : bf = fr
        · subst h6
          have hR : BM.beginR ⟨4, be, bf, bd, br, es⟩ be bf = (⟨4, be, bf, bd, br, es⟩, 0) := by
            (unfold BM.beginR; dsimp only; repeat (first | rw [if_pos (by omega)] | rw [if_neg (by omega)]); try rfl)
          rw [hR]
          clear hR
          have HF := Lib.hid (fun W A' c' (h1 : n ≤ c') (h2 : St w0 W (evIt A' es :: I)) => (BPost.mk (r := (⟨4, be, bf, bd, br, es⟩, 0)) HL.out h1 h2 : BPost w0 I (⟨4, be, bf, bd, br, es⟩, 0) (.returned (.tuple #[.agg #[.int .i64 4, .int .i64 be, .int .i64 bf, .int .i64 bd, .int .i64 br, .slice A' n c'], .int .i64 0])) W))
          generalize BPost w0 I (⟨4, be, bf, bd, br, es⟩, 0) = POST at *
          go_enter Try.func46, Try.ntmps46
          clear hfold
          skip
          go_wp2_with (first | (go_at_call 41; have h := HI.out; refine (check_st ⟨4, be, bf, bd, br, es⟩ A n c m HL.out HB.out hm hc H).mono ?_; clear H h; rintro ed wy ⟨rfl, H⟩) | (go_at_call 44; refine (node_any _ _).mono ?_; rintro ed wy ⟨rfl, rfl⟩) | (go_at_call 45; have h := HI.out; refine (with_nil ⟨4, be, bf, bd, br, es⟩ A n c HL.out (by omega) hc H).mono ?_; clear H h; rintro ed wy ⟨A9, c9, rfl, hc9, H⟩) | (first | ((with_reducible refine here_load ?_); first | refine ldR H rfl _ _ rfl rfl (by kernel_rfl) ?_ | refine ldS H rfl _ _ rfl rfl (by rfl) ?_ | refine ldSG H (by rfl) _ _ rfl rfl (by rfl) ?_ | refine ldRG H (by rfl) _ _ rfl rfl (by kernel_rfl) ?_) | ((with_reducible refine here_store ?_); first | (refine stR H rfl _ _ _ rfl rfl rfl (by rfl) (by rfl) (by kernel_rfl) ?_; clear H; intro wx H) | (refine stS H rfl _ _ _ rfl rfl _ rfl (by rfl) (by rfl) (by rfl) ?_; clear H; intro wx H)) | ((with_reducible refine here_alloc ?_); first | (refine wpList_alloc_st H rfl 37 rfl _ q_zero ?_; clear H; intro gq wx H) | (refine wpList_alloc_st H rfl 48 rfl _ ans_zero ?_; clear H; intro ga wx H) | (refine wpList_alloc_st H rfl 44 rfl _ ev_zero ?_; clear H; intro ge wx H) | (refine wpList_alloc_st H rfl 58 rfl _ ber_zero ?_; clear H; intro gr wx H)) | ((with_reducible refine here_box ?_); refine wpList_box_st H rfl _ _ rfl _ rfl ?_; clear H; intro gb wx H)))
          have l4 : (loadVar 58 ⟨gr, 0, none⟩).run Try.prog wx = .ok (.agg #[.int .i64 4, .int .i64 be, .int .i64 bf, .int .i64 bd, .int .i64 br, .slice A9 n c9]) wx := H.loadRow 58 gr row_Berth (P := Try.prog) (by kernel_rfl)
          exact bodyPost_ret (v := .tuple #[.agg #[.int .i64 4, .int .i64 be, .int .i64 bf, .int .i64 bd, .int .i64 br, .slice A9 n c9], .int .i64 0]) (by simp [results, Try.results46, asAddr, l4]) rfl (HF.out _ _ _ hc9 (H.subm _))
        · skip
          have g1a : ((bf : Int) == fr) = false := by simp; omega
          have g1b : decide ((bf : Int) = fr) = false := by simp; omega
          have h4 : be ≤ be := Int.le_refl _
          have hR : BM.beginR ⟨4, be, bf, bd, br, es⟩ be fr = (⟨0, 0, 0, 0, 0, []⟩, 15) := by
            (unfold BM.beginR; dsimp only; repeat (first | rw [if_pos (by omega)] | rw [if_neg (by omega)]); try rfl)
          rw [hR]
          clear hR
          have HF := Lib.hid (fun W (h2 : St w0 W I) => (BPost.mk (r := (⟨0, 0, 0, 0, 0, []⟩, 15)) (n := 0) (c := 0) (A := none) rfl (Nat.le_refl _) (h2.old (s := 6) (n := 0) (A := none) (xs := []) Reads.none_) : BPost w0 I (⟨0, 0, 0, 0, 0, []⟩, 15) (.returned (.tuple #[.agg #[.int .i64 0, .int .i64 0, .int .i64 0, .int .i64 0, .int .i64 0, .slice none 0 0], .int .i64 15])) W))
          generalize BPost w0 I (⟨0, 0, 0, 0, 0, []⟩, 15) = POST at *
          go_enter Try.func46, Try.ntmps46
          clear hfold
          skip
          go_wp2_with (first | (go_at_call 41; have h := HI.out; refine (check_st ⟨4, be, bf, bd, br, es⟩ A n c m HL.out HB.out hm hc H).mono ?_; clear H h; rintro ed wy ⟨rfl, H⟩) | (go_at_call 44; refine (node_any _ _).mono ?_; rintro ed wy ⟨rfl, rfl⟩) | (first | ((with_reducible refine here_load ?_); first | refine ldR H rfl _ _ rfl rfl (by kernel_rfl) ?_ | refine ldS H rfl _ _ rfl rfl (by rfl) ?_ | refine ldSG H (by rfl) _ _ rfl rfl (by rfl) ?_ | refine ldRG H (by rfl) _ _ rfl rfl (by kernel_rfl) ?_) | ((with_reducible refine here_store ?_); first | (refine stR H rfl _ _ _ rfl rfl rfl (by rfl) (by rfl) (by kernel_rfl) ?_; clear H; intro wx H) | (refine stS H rfl _ _ _ rfl rfl _ rfl (by rfl) (by rfl) (by rfl) ?_; clear H; intro wx H)) | ((with_reducible refine here_alloc ?_); first | (refine wpList_alloc_st H rfl 37 rfl _ q_zero ?_; clear H; intro gq wx H) | (refine wpList_alloc_st H rfl 48 rfl _ ans_zero ?_; clear H; intro ga wx H) | (refine wpList_alloc_st H rfl 44 rfl _ ev_zero ?_; clear H; intro ge wx H) | (refine wpList_alloc_st H rfl 58 rfl _ ber_zero ?_; clear H; intro gr wx H)) | ((with_reducible refine here_box ?_); refine wpList_box_st H rfl _ _ rfl _ rfl ?_; clear H; intro gb wx H)))
          have l4 : (loadVar 58 ⟨gr, 0, none⟩).run Try.prog wx = .ok (.agg #[.int .i64 0, .int .i64 0, .int .i64 0, .int .i64 0, .int .i64 0, .slice none 0 0]) wx := H.loadRow 58 gr row_Berth (P := Try.prog) (by kernel_rfl)
          exact bodyPost_ret (v := .tuple #[.agg #[.int .i64 0, .int .i64 0, .int .i64 0, .int .i64 0, .int .i64 0, .slice none 0 0], .int .i64 15]) (by simp [results, Try.results46, asAddr, l4]) rfl (HF.out _ (H.subm _))
      · skip
        have g1a : ((be : Int) == ep) = false := by simp; omega
        have g1b : decide ((be : Int) = ep) = false := by simp; omega
        by_cases h4 : ep ≤ be
        · skip
          have hR : BM.beginR ⟨4, be, bf, bd, br, es⟩ ep fr = (⟨0, 0, 0, 0, 0, []⟩, 15) := by
            (unfold BM.beginR; dsimp only; repeat (first | rw [if_pos (by omega)] | rw [if_neg (by omega)]); try rfl)
          rw [hR]
          clear hR
          have HF := Lib.hid (fun W (h2 : St w0 W I) => (BPost.mk (r := (⟨0, 0, 0, 0, 0, []⟩, 15)) (n := 0) (c := 0) (A := none) rfl (Nat.le_refl _) (h2.old (s := 6) (n := 0) (A := none) (xs := []) Reads.none_) : BPost w0 I (⟨0, 0, 0, 0, 0, []⟩, 15) (.returned (.tuple #[.agg #[.int .i64 0, .int .i64 0, .int .i64 0, .int .i64 0, .int .i64 0, .slice none 0 0], .int .i64 15])) W))
          generalize BPost w0 I (⟨0, 0, 0, 0, 0, []⟩, 15) = POST at *
          go_enter Try.func46, Try.ntmps46
          clear hfold
          skip
          go_wp2_with (first | (go_at_call 41; have h := HI.out; refine (check_st ⟨4, be, bf, bd, br, es⟩ A n c m HL.out HB.out hm hc H).mono ?_; clear H h; rintro ed wy ⟨rfl, H⟩) | (go_at_call 44; refine (node_any _ _).mono ?_; rintro ed wy ⟨rfl, rfl⟩) | (first | ((with_reducible refine here_load ?_); first | refine ldR H rfl _ _ rfl rfl (by kernel_rfl) ?_ | refine ldS H rfl _ _ rfl rfl (by rfl) ?_ | refine ldSG H (by rfl) _ _ rfl rfl (by rfl) ?_ | refine ldRG H (by rfl) _ _ rfl rfl (by kernel_rfl) ?_) | ((with_reducible refine here_store ?_); first | (refine stR H rfl _ _ _ rfl rfl rfl (by rfl) (by rfl) (by kernel_rfl) ?_; clear H; intro wx H) | (refine stS H rfl _ _ _ rfl rfl _ rfl (by rfl) (by rfl) (by rfl) ?_; clear H; intro wx H)) | ((with_reducible refine here_alloc ?_); first | (refine wpList_alloc_st H rfl 37 rfl _ q_zero ?_; clear H; intro gq wx H) | (refine wpList_alloc_st H rfl 48 rfl _ ans_zero ?_; clear H; intro ga wx H) | (refine wpList_alloc_st H rfl 44 rfl _ ev_zero ?_; clear H; intro ge wx H) | (refine wpList_alloc_st H rfl 58 rfl _ ber_zero ?_; clear H; intro gr wx H)) | ((with_reducible refine here_box ?_); refine wpList_box_st H rfl _ _ rfl _ rfl ?_; clear H; intro gb wx H)))
          have l4 : (loadVar 58 ⟨gr, 0, none⟩).run Try.prog wx = .ok (.agg #[.int .i64 0, .int .i64 0, .int .i64 0, .int .i64 0, .int .i64 0, .slice none 0 0]) wx := H.loadRow 58 gr row_Berth (P := Try.prog) (by kernel_rfl)
          exact bodyPost_ret (v := .tuple #[.agg #[.int .i64 0, .int .i64 0, .int .i64 0, .int .i64 0, .int .i64 0, .slice none 0 0], .int .i64 15]) (by simp [results, Try.results46, asAddr, l4]) rfl (HF.out _ (H.subm _))
        · skip
          have hR : BM.beginR ⟨4, be, bf, bd, br, es⟩ ep fr = (⟨4, ep, fr, 0, 0, []⟩, 0) := by
            (unfold BM.beginR; dsimp only; repeat (first | rw [if_pos (by omega)] | rw [if_neg (by omega)]); try rfl)
          rw [hR]
          clear hR
          have HF := Lib.hid (fun W (h2 : St w0 W I) => (BPost.mk (r := (⟨4, ep, fr, 0, 0, []⟩, 0)) (n := 0) (c := 0) (A := none) rfl (Nat.le_refl _) (h2.old (s := 6) (n := 0) (A := none) (xs := []) Reads.none_) : BPost w0 I (⟨4, ep, fr, 0, 0, []⟩, 0) (.returned (.tuple #[.agg #[.int .i64 4, .int .i64 ep, .int .i64 fr, .int .i64 0, .int .i64 0, .slice none 0 0], .int .i64 0])) W))
          generalize BPost w0 I (⟨4, ep, fr, 0, 0, []⟩, 0) = POST at *
          go_enter Try.func46, Try.ntmps46
          clear hfold
          skip
          go_wp2_with (first | (go_at_call 41; have h := HI.out; refine (check_st ⟨4, be, bf, bd, br, es⟩ A n c m HL.out HB.out hm hc H).mono ?_; clear H h; rintro ed wy ⟨rfl, H⟩) | (go_at_call 44; refine (node_any _ _).mono ?_; rintro ed wy ⟨rfl, rfl⟩) | (first | ((with_reducible refine here_load ?_); first | refine ldR H rfl _ _ rfl rfl (by kernel_rfl) ?_ | refine ldS H rfl _ _ rfl rfl (by rfl) ?_ | refine ldSG H (by rfl) _ _ rfl rfl (by rfl) ?_ | refine ldRG H (by rfl) _ _ rfl rfl (by kernel_rfl) ?_) | ((with_reducible refine here_store ?_); first | (refine stR H rfl _ _ _ rfl rfl rfl (by rfl) (by rfl) (by kernel_rfl) ?_; clear H; intro wx H) | (refine stS H rfl _ _ _ rfl rfl _ rfl (by rfl) (by rfl) (by rfl) ?_; clear H; intro wx H)) | ((with_reducible refine here_alloc ?_); first | (refine wpList_alloc_st H rfl 37 rfl _ q_zero ?_; clear H; intro gq wx H) | (refine wpList_alloc_st H rfl 48 rfl _ ans_zero ?_; clear H; intro ga wx H) | (refine wpList_alloc_st H rfl 44 rfl _ ev_zero ?_; clear H; intro ge wx H) | (refine wpList_alloc_st H rfl 58 rfl _ ber_zero ?_; clear H; intro gr wx H)) | ((with_reducible refine here_box ?_); refine wpList_box_st H rfl _ _ rfl _ rfl ?_; clear H; intro gb wx H)))
          have l4 : (loadVar 58 ⟨gr, 0, none⟩).run Try.prog wx = .ok (.agg #[.int .i64 4, .int .i64 ep, .int .i64 fr, .int .i64 0, .int .i64 0, .slice none 0 0]) wx := H.loadRow 58 gr row_Berth (P := Try.prog) (by kernel_rfl)
          exact bodyPost_ret (v := .tuple #[.agg #[.int .i64 4, .int .i64 ep, .int .i64 fr, .int .i64 0, .int .i64 0, .slice none 0 0], .int .i64 0]) (by simp [results, Try.results46, asAddr, l4]) rfl (HF.out _ (H.subm _))
  · have h3d := decide_eq_false h3
    have hR : BM.beginR ⟨r, be, bf, bd, br, es⟩ ep fr = (⟨0, 0, 0, 0, 0, []⟩, 2) := by
      (unfold BM.beginR; dsimp only; repeat (first | rw [if_pos (by omega)] | rw [if_neg (by omega)]); try rfl)
    rw [hR]
    clear hR
    have HF := Lib.hid (fun W (h2 : St w0 W I) => (BPost.mk (r := (⟨0, 0, 0, 0, 0, []⟩, 2)) (n := 0) (c := 0) (A := none) rfl (Nat.le_refl _) (h2.old (s := 6) (n := 0) (A := none) (xs := []) Reads.none_) : BPost w0 I (⟨0, 0, 0, 0, 0, []⟩, 2) (.returned (.tuple #[.agg #[.int .i64 0, .int .i64 0, .int .i64 0, .int .i64 0, .int .i64 0, .slice none 0 0], .int .i64 2])) W))
    generalize BPost w0 I (⟨0, 0, 0, 0, 0, []⟩, 2) = POST at *
    go_enter Try.func46, Try.ntmps46
    clear hfold
    skip
    go_wp2_with (first | (go_at_call 41; have h := HI.out; refine (check_st ⟨r, be, bf, bd, br, es⟩ A n c m HL.out HB.out hm hc H).mono ?_; clear H h; rintro ed wy ⟨rfl, H⟩) | (go_at_call 44; refine (node_any _ _).mono ?_; rintro ed wy ⟨rfl, rfl⟩) | (first | ((with_reducible refine here_load ?_); first | refine ldR H rfl _ _ rfl rfl (by kernel_rfl) ?_ | refine ldS H rfl _ _ rfl rfl (by rfl) ?_ | refine ldSG H (by rfl) _ _ rfl rfl (by rfl) ?_ | refine ldRG H (by rfl) _ _ rfl rfl (by kernel_rfl) ?_) | ((with_reducible refine here_store ?_); first | (refine stR H rfl _ _ _ rfl rfl rfl (by rfl) (by rfl) (by kernel_rfl) ?_; clear H; intro wx H) | (refine stS H rfl _ _ _ rfl rfl _ rfl (by rfl) (by rfl) (by rfl) ?_; clear H; intro wx H)) | ((with_reducible refine here_alloc ?_); first | (refine wpList_alloc_st H rfl 37 rfl _ q_zero ?_; clear H; intro gq wx H) | (refine wpList_alloc_st H rfl 48 rfl _ ans_zero ?_; clear H; intro ga wx H) | (refine wpList_alloc_st H rfl 44 rfl _ ev_zero ?_; clear H; intro ge wx H) | (refine wpList_alloc_st H rfl 58 rfl _ ber_zero ?_; clear H; intro gr wx H)) | ((with_reducible refine here_box ?_); refine wpList_box_st H rfl _ _ rfl _ rfl ?_; clear H; intro gb wx H)))
    have l4 : (loadVar 58 ⟨gr, 0, none⟩).run Try.prog wx = .ok (.agg #[.int .i64 0, .int .i64 0, .int .i64 0, .int .i64 0, .int .i64 0, .slice none 0 0]) wx := H.loadRow 58 gr row_Berth (P := Try.prog) (by kernel_rfl)
    exact bodyPost_ret (v := .tuple #[.agg #[.int .i64 0, .int .i64 0, .int .i64 0, .int .i64 0, .int .i64 0, .slice none 0 0], .int .i64 2]) (by simp [results, Try.results46, asAddr, l4]) rfl (HF.out _ (H.subm _))

end Go.Proofs.Ytjmncbfmjeeneaa

namespace Go.Proofs.Ytjmncbfmjeeneaa
open Go.RowKit

theorem evNe_same (e : Ev) : evNe e.kind e.prod e.id e.body e.hep e.hno e.kind e.prod e.id e.body e.hep e.hno = false := by simp [evNe]
set_option maxRecDepth 100000 in
set_option maxHeartbeats 8000000 in
theorem sameEv_st {w0 w : World} {I : List It} (es : List Ev) (A B : Option Addr) (n c d : Nat) (hn : es.length = n) (H : St w0 w I) [h1 : Has I (evIt A es)] [h2 : Has I (evIt B es)] (hn1 : n ≤ 1000) (hc : n ≤ c) (hd : n ≤ d) :
    Calls Try.prog 19 #[.slice A n c, .slice B n d] w (fun ed w' => ed = .returned (.bool true) ∧ St w0 w' I) := by
  have HF := Lib.hid (show ∀ W, St w0 W I → (fun ed w' => ed = Ending.returned (.bool true) ∧ St w0 w' I) (Ending.returned (.bool true)) W from fun W h => ⟨rfl, h⟩)
  generalize (fun ed w' => ed = Ending.returned (.bool true) ∧ St w0 w' I) = POST at *
  have HI := Lib.hid (show Has I (evIt A es) ∧ Has I (evIt B es) from ⟨h1, h2⟩)
  have HN := Lib.hid hn
  clear h1 h2 hn
  go_enter Try.func19, Try.ntmps19
  go_upto_region 4 with fail
  go_loopw [5] (fun s5 wr => ∃ (i : Nat), i ≤ n ∧ s5 = .int .i64 i ∧ St w0 wr I) (fun s5 _ => n - (intOf s5).toNat)
  case atStart => exact ⟨0, by omega, rfl, H⟩
  case round =>
    clear H
    obtain ⟨i, hi, rfl, H⟩ := hrel
    by_cases hlt : i < n
    · obtain ⟨h1, h2⟩ := HI.out
      obtain ⟨b, off, hA, hb, q0, q1, q2, q3, q4, q5⟩ := qevAt (H.get (evIt A es)) rfl (show i < es.length by rw [HN.out]; exact hlt)
      obtain ⟨b', off', hB, hb', r0, r1, r2, r3, r4, r5⟩ := qevAt (H.get (evIt B es)) rfl (show i < es.length by rw [HN.out]; exact hlt)
      clear h1 h2
      subst hA
      have HA2 := Lib.hid hB
      clear hB
      obtain rfl := HA2.out
      generalize es.getD i .zero0 = e at *
      have hq := ev_neq e.kind e.prod e.id e.body e.hep e.hno e.kind e.prod e.id e.body e.hep e.hno
      rw [evNe_same] at hq
      obtain ⟨e0, e1, e2, e3, e4, e5⟩ := e
      dsimp only at q0 q1 q2 q3 q4 q5 r0 r1 r2 r3 r4 r5 hq
      have k6 : (0 : Int) ≤ (i : Int) := by omega
      have k7 : (i : Int) < (n : Int) := by omega
      have k8 : (n : Int) ≤ (c : Int) := by omega
      have k9 : (n : Int) ≤ (d : Int) := by omega
      have w1 : IntKind.i64.wrap ((i : Int) + 1) = (i : Int) + 1 := IntWalk.i64_in _ (by omega)
      have HH := Lib.hid H
      have HLT := Lib.hid hlt
      clear hb hb' hlt HA2
      go_upto_region 6 with fail
      clear H
      go_quiet (fail)
      have H := HH.out.drewN nq
      clear HH q0 q1 q2 q3 q4 q5 r0 r1 r2 r3 r4 r5 hq
      go_wp2_with fail
      go_roundw
      case rel => exact ⟨i + 1, by have := HLT.out; omega, by go_num, H⟩
      case measure => have := HLT.out; simp [intOf]; omega
    · obtain rfl : i = n := by omega
      have hlt2 : ¬ (i : Int) < (i : Int) := by omega
      clear hlt hi
      go_wp2_with fail
      exact HF.out _ H

end Go.Proofs.Ytjmncbfmjeeneaa

namespace Go.Proofs.Ytjmncbfmjeeneaa
open Go.RowKit

theorem qwin_part (ep nx gv : Int) (vr vl : Value) (t : Nat → Int) (f : Nat → Nat → Bool) (p : Nat) (hp : p < 4) : (qCells ep nx gv vr vl t f).extract (5 + p * 9) (5 + p * 9 + 9) = winCells (t p) (f p) := by
  rcases (show p = 0 ∨ p = 1 ∨ p = 2 ∨ p = 3 by omega) with rfl | rfl | rfl | rfl <;> kernel_rfl
/-- a queue's cells -/
structure QCs (w : World) (lo B : Nat) (q : QM) (cs : Array Value) (A1 A2 : Option Addr) (c1 c2 : Nat) : Prop where
  size : cs.size = 41
  all : cs.all (·.oneCell') = true
  ep : cs[0]? = some (.int .i64 q.ep)
  nx : cs[1]? = some (.int .i64 q.nx)
  gv : cs[2]? = some (.int .i64 q.gv)
  rd : cs[3]? = some (.slice A1 q.rd.length c1)
  ls : cs[4]? = some (.slice A2 q.ls.length c2)
  win : ∀ p, p < 4 → cs.extract (5 + p * 9) (5 + p * 9 + 9) = winCells (q.t p) (shows (q.t p) (q.S p))
  r1 : Reads w B 2 A1 q.rd.length (msgCells q.rd)
  r2 : Reads w B 4 A2 q.ls.length (lsCells q.ep q.ls)
  le1 : q.rd.length ≤ c1
  le2 : q.ls.length ≤ c2
theorem QIs.parts {w : World} {lo B : Nat} {q : QM} {v : Value} (h : QIs w lo B q v) : ∃ cs A1 c1 A2 c2, v = .agg cs ∧ QCs w lo B q cs A1 A2 c1 c2 := by
  obtain ⟨A1, c1, A2, c2, rfl, h1, h2, h3, h4, _⟩ := h
  exact ⟨_, A1, c1, A2, c2, rfl, rfl, by kernel_rfl, rfl, rfl, rfl, rfl, rfl, fun p hp => qwin_part _ _ _ _ _ _ _ p hp, h3, h4, h1, h2⟩
/-- whatever the slices' places -/
theorem QIs.cells {w : World} {lo B : Nat} {q : QM} {cs : Array Value} (h : QIs w lo B q (.agg cs)) : ∃ A1 c1 A2 c2, QCs w lo B q cs A1 A2 c1 c2 := by
  obtain ⟨cs', A1, c1, A2, c2, e, h⟩ := h.parts
  cases e
  exact ⟨A1, c1, A2, c2, h⟩
/-- a variable that holds a queue -/
structure QVar (w : World) (g : Nat) (q : QM) : Prop where
  out : ∃ lo B cs, B ≤ w.heap.size ∧ g < w.heap.size ∧ Blk w g 37 cs ∧ QIs w lo B q (.agg cs) ∧ (g < lo ∨ B ≤ g)
theorem eqItems_self {P : Program} {w : World} (d : Nat) (e : TypeId) (c : Nat) (xs : Array Value) : ∀ is : List Nat, (∀ i ∈ is, ∃ v, (part e xs (i * c)).run P w = .ok v w ∧ (Op.equalIn d e v v).run P w = .ok true w) → (Op.eqItems d e c xs xs is).run P w = .ok true w
  | [], _ => by simp [Op.eqItems]
  | i :: is, h => by
    obtain ⟨v, h1, h2⟩ := h i (by simp)
    have h3 := eqItems_self d e c xs is (fun j hj => h j (List.mem_cons_of_mem _ hj))
    simp [Op.eqItems, Sem.run_bind, h1, h2, h3]
theorem seen_self (d : Nat) (f : Nat → Bool) (w : World) : (Op.equalIn (d + 2) 32 (.agg #[.bool (f 0), .bool (f 1), .bool (f 2), .bool (f 3), .bool (f 4), .bool (f 5), .bool (f 6), .bool (f 7)]) (.agg #[.bool (f 0), .bool (f 1), .bool (f 2), .bool (f 3), .bool (f 4), .bool (f 5), .bool (f 6), .bool (f 7)])).run Try.prog w = .ok true w := by
  have hi : Try.prog.info? 4 = some Try.t4 := by kernel_rfl
  rw [run_equalIn_array (P := Try.prog) w (d + 1) _ _ Try.underlying32 hi]
  refine eqItems_self _ _ _ _ _ fun i h => ?_
  have h8 : i < 8 := List.mem_range.1 h
  have hc : Try.prog.cellsOf 4 = 1 := by kernel_rfl
  rw [hc]
  refine ⟨.bool (f i), ?_, by simp [go_sem]⟩
  rcases (show i = 0 ∨ i = 1 ∨ i = 2 ∨ i = 3 ∨ i = 4 ∨ i = 5 ∨ i = 6 ∨ i = 7 by omega) with rfl | rfl | rfl | rfl | rfl | rfl | rfl | rfl <;> simp [part, go_sem]
theorem win_self (d : Nat) (top : Int) (f : Nat → Bool) (w : World) : (Op.equalIn (d + 3) 34 (.agg (winCells top f)) (.agg (winCells top f))).run Try.prog w = .ok true w := by
  have h1 : Try.prog.underlying 34 = some (.struct (Try.prog.fieldsOf 34)) := by kernel_rfl
  have h2 : Try.prog.stoodInHeld 34 = false := by kernel_rfl
  rw [run_equalIn_struct _ _ _ _ _ h1 h2]
  unfold winCells
  simp [go_sem, seen_self]
theorem win1_under : Try.prog.underlying 34 = some (.struct (Try.prog.fieldsOf 34)) := by kernel_rfl
theorem win1_size : (Try.prog.info? 34).map (·.size) = some 9 := by kernel_rfl
theorem win_eql_self (top : Int) (f : Nat → Bool) (w : World) : (binOp .eql 34 (.agg (winCells top f)) (.agg (winCells top f))).run Try.prog w = .ok (.bool true) w := by
  have h1 : Try.prog.underlying 34 = some (.struct (Try.prog.fieldsOf 34)) := by kernel_rfl
  have h2 : Try.prog.stoodInHeld 34 = false := by kernel_rfl
  have h3 := win_self 9997 top f w
  rw [run_eql_struct, h3]
  rfl

/-- .. at an operation under a guard -/
theorem wpList_load_partG {P : Program} {ops : Array Oper} {rest : List Oper} {o : Oper} {a : Act} {w : World} {Q : Exit → Act → World → Prop} (hw : Region.wanted o (yielded ops a.tmps) = true) (ty : TypeId) (x : Operand) (ho : o.op = .load ty x)
    (g p m : Nat) (hx : a.eval x = .pointer (some ⟨g, p, none⟩)) (t : TypeId) (cs : Array Value) (d : TypeDesc) (hg : Blk w g t cs)
    (hu : P.underlying ty = some d) (hd : (match d with | .struct _ | .array _ _ => true | _ => false) = true) (hi : (P.info? ty).map (·.size) = some m) (hm : p + m ≤ cs.size)
    (h : wpList P ops Q rest (a.put o.dst (.agg (cs.extract p (p + m)))) w) : wpList P ops Q (o :: rest) a w :=
  Go.BigFrame.wpList_want hw fun _ hK => wp_load_part ty x ho g p m hx t cs d hg hu hd hi hm (hK _ _ h)

end Go.Proofs.Ytjmncbfmjeeneaa

namespace Go.Proofs.Ytjmncbfmjeeneaa
open Go.RowKit

theorem row_Wins : (match Try.prog.underlying 35 with | some (.struct _) | some (.array _ _) => true | _ => false) = true := by kernel_rfl
theorem qwins (q : QM) (A1 : Option Addr) (c1 : Nat) (A2 : Option Addr) (c2 : Nat) : (qArr q A1 c1 A2 c2).extract 5 (5 + 36) = wCells q.t (fun i => shows (q.t i) (q.S i)) := by kernel_rfl
theorem wins_self (t : Nat → Int) (f : Nat → Nat → Bool) (w : World) : (binOp .neq 35 (.agg (wCells t f)) (.agg (wCells t f))).run Try.prog w = .ok (.bool false) w := by
  have hi : Try.prog.info? 34 = some Try.t34 := by kernel_rfl
  have hc : Try.prog.cellsOf 34 = 9 := by kernel_rfl
  have h : ∀ d, (Op.equalIn (d + 4) 35 (.agg (wCells t f)) (.agg (wCells t f))).run Try.prog w = .ok true w := fun d => by
    rw [run_equalIn_array (P := Try.prog) w (d + 3) _ _ Try.underlying35 hi]
    refine eqItems_self _ _ _ _ _ fun i h => ?_
    have h4 : i < 4 := List.mem_range.1 h
    rw [hc]
    refine ⟨.agg (winCells (t i) (f i)), ?_, win_self _ _ _ _⟩
    rcases (show i = 0 ∨ i = 1 ∨ i = 2 ∨ i = 3 by omega) with rfl | rfl | rfl | rfl <;> kernel_rfl
  simp only [binOp]
  have := h 9996
  simp [Op.equal, Op.maxDepth, this]
theorem msg_neq_same (a b : Int) (w : World) : (binOp .neq 87 (.agg #[.int .i64 a, .int .i64 b]) (.agg #[.int .i64 a, .int .i64 b])).run Try.prog w = .ok (.bool false) w := by
  have h1 : Try.prog.underlying 87 = some (.struct (Try.prog.fieldsOf 87)) := by kernel_rfl
  have h2 : Try.prog.stoodInHeld 87 = false := by kernel_rfl
  rw [run_neq_struct, run_equalIn_struct _ _ _ _ _ h1 h2]
  simp [go_sem]
theorem ls_neq_same (a b c d : Int) (w : World) : (binOp .neq 90 (.agg #[.int .i64 a, .int .i64 b, .int .i64 c, .int .i64 d]) (.agg #[.int .i64 a, .int .i64 b, .int .i64 c, .int .i64 d])).run Try.prog w = .ok (.bool false) w := by
  have h1 : Try.prog.underlying 90 = some (.struct (Try.prog.fieldsOf 90)) := by kernel_rfl
  have h2 : Try.prog.stoodInHeld 90 = false := by kernel_rfl
  rw [run_neq_struct, run_equalIn_struct _ _ _ _ _ h1 h2]
  simp [go_sem]

end Go.Proofs.Ytjmncbfmjeeneaa

namespace Go.Proofs.Ytjmncbfmjeeneaa
open Go.RowKit

theorem bpost_to {P : Program} {f : FuncId} {args : Array Value} {w W : World} {J : List It} {r : BM × Int} {m : Nat} (hl : r.1.es.length = m) (h : Calls P f args W (BPost w J r)) :
    Calls P f args W (fun ed w' => ∃ A c, ed = .returned (.tuple #[.agg (bArr r.1 A m c), .int .i64 r.2]) ∧ m ≤ c ∧ St w w' (evIt A r.1.es :: J)) := by
  subst hl
  exact h
/-- no break among what was served -/
theorem servedN_nobrk (ep : Int) (rows : List (List Int)) : ∀ k, ∀ e ∈ (servedN ep rows k).es, e.kind ≠ 4
  | 0 => fun e h => by cases h
  | k + 1 => by
    have ih := servedN_nobrk ep rows k
    simp only [servedN]
    generalize servedN ep rows k = b at *
    generalize evIn rows k = x
    unfold BM.take
    split
    · exact ih
    · next hx =>
      unfold BM.serve
      split
      · exact ih
      · split
        · split
          · intro e he
            rcases List.mem_append.1 he with he | he
            · exact ih e he
            · rw [List.mem_singleton.1 he]
              exact hx
          · exact ih
        · exact ih
/-- the first events -/
theorem BM.Ok.cut {b b' : BM} {n : Nat} (h : b.Ok n) (k : Nat) (hs : b'.Shape) (he : b'.es = b.es.take k) : b'.Ok n := by
  obtain ⟨la, ht⟩ := h.told
  obtain ⟨⟨q, la'⟩, ht2⟩ := tells_take b.es _ _ _ k ht
  refine ⟨hs, fun e hm => h.chk e (by rw [he] at hm; exact List.mem_of_mem_take hm), by have := h.len; rw [he, List.length_take]; omega, ⟨la', ?_⟩⟩
  rw [he, rq_of ht2]
  exact ht2
/-- another berth with the same events -/
theorem BM.Ok.same {b b' : BM} {n : Nat} (h : b.Ok n) (hs : b'.Shape) (he : b'.es = b.es) : b'.Ok n :=
  ⟨hs, by rw [he]; exact h.chk, by rw [he]; exact h.len, by rw [he]; exact h.told⟩
/-- what 'served' makes, by its numbers -/
theorem served_is (ep : Int) (rows : List (List Int)) (h1 : 1 ≤ ep) (h2 : ep ≤ 1048576) (k : Nat) : ∃ es, servedN ep rows k = ⟨1, ep, 0, 0, 0, es⟩ ∧ es.length ≤ k ∧ (⟨1, ep, 0, 0, 0, es⟩ : BM).Ok k ∧ (∀ e ∈ es, e.kind ≠ 4) := by
  obtain ⟨h3, h4, h5⟩ := servedN_ok ep rows h1 h2 k
  have hnb := servedN_nobrk ep rows k
  generalize servedN ep rows k = b at *
  obtain ⟨r, e, f, d, o, es⟩ := b
  dsimp only at h4 h5
  subst h4
  subst h5
  rcases h3.shape with h6 | ⟨_, _, h6 | h6 | h6 | h6⟩
  · cases h6.1
  · obtain ⟨_, h7, h8, h9⟩ := h6
    dsimp only at h7 h8 h9
    subst h7 h8 h9
    exact ⟨es, rfl, h3.len, h3, hnb⟩
  · cases h6.1
  · cases h6.1
  · cases h6.1
theorem vpost_to {P : Program} {f : FuncId} {args : Array Value} {w W : World} {J : List It} {b : BM} {m : Nat} (hl : b.es.length = m) (h : Calls P f args W (VPost w J b)) :
    Calls P f args W (fun ed w' => ∃ A c, ed = .returned (.tuple #[.agg (bArr b A m c), .bool true]) ∧ m ≤ c ∧ St w w' (evIt A b.es :: J)) := by
  subst hl
  exact h
theorem HZ_less {m : Nat} : (⟨0, 0, 0, 0, 0, []⟩ : BM).Ok m := BM.zero_ok.more (Nat.zero_le _)
theorem arr6_all (a b c d e f : Value) : (#[a, b, c, d, e, f] : Array Value).extract 0 (0 + 6) = #[a, b, c, d, e, f] := by rfl
theorem arr4_all (a b c d : Value) : (#[a, b, c, d] : Array Value).extract 0 (0 + 4) = #[a, b, c, d] := by rfl
set_option maxRecDepth 100000 in
set_option maxHeartbeats 8000000 in
theorem sameBerth_st {w0 w : World} {I : List It} (r e f d o : Int) (es : List Ev) (A B : Option Addr) (n c d' : Nat) (hn : es.length = n) (H : St w0 w I) [h1 : Has I (evIt A es)] [h2 : Has I (evIt B es)] (hn1 : n ≤ 1000) (hc : n ≤ c) (hd : n ≤ d') :
    Calls Try.prog 20 #[.agg #[.int .i64 r, .int .i64 e, .int .i64 f, .int .i64 d, .int .i64 o, .slice A n c], .agg #[.int .i64 r, .int .i64 e, .int .i64 f, .int .i64 d, .int .i64 o, .slice B n d']] w (fun ed w' => ed = .returned (.bool true) ∧ St w0 w' I) := by
  have HF := Lib.hid (show ∀ W, St w0 W I → (fun ed w' => ed = Ending.returned (.bool true) ∧ St w0 w' I) (Ending.returned (.bool true)) W from fun W h => ⟨rfl, h⟩)
  generalize (fun ed w' => ed = Ending.returned (.bool true) ∧ St w0 w' I) = POST at *
  have HI := Lib.hid (show Has I (evIt A es) ∧ Has I (evIt B es) from ⟨h1, h2⟩)
  have HL := Lib.hid hn
  clear h1 h2 hn
  go_enter Try.func20, Try.ntmps20
  go_upto_region 1 with (first | ((with_reducible refine here_box ?_); refine wpList_box_st H rfl 58 _ rfl _ rfl ?_; clear H; intro gb wx H) | fail)
  go_wp2_with (first | (go_at_call 19; have h1 := HI.out.1; have h2 := HI.out.2; refine (sameEv_st es A B n c d' HL.out H hn1 hc hd).mono ?_; clear H h1 h2; rintro ed wy ⟨rfl, H⟩) | (first | ((with_reducible refine here_load ?_); first | refine ldR H rfl _ _ rfl rfl (by kernel_rfl) ?_ | refine ldS H rfl _ _ rfl rfl (by rfl) ?_ | refine ldSG H (by rfl) _ _ rfl rfl (by rfl) ?_ | refine ldRG H (by rfl) _ _ rfl rfl (by kernel_rfl) ?_) | ((with_reducible refine here_store ?_); first | (refine stR H rfl _ _ _ rfl rfl rfl (by rfl) (by rfl) (by kernel_rfl) ?_; clear H; intro wx H) | (refine stS H rfl _ _ _ rfl rfl _ rfl (by rfl) (by rfl) (by rfl) ?_; clear H; intro wx H)) | ((with_reducible refine here_alloc ?_); first | (refine wpList_alloc_st H rfl 37 rfl _ q_zero ?_; clear H; intro gq wx H) | (refine wpList_alloc_st H rfl 48 rfl _ ans_zero ?_; clear H; intro ga wx H) | (refine wpList_alloc_st H rfl 44 rfl _ ev_zero ?_; clear H; intro ge wx H) | (refine wpList_alloc_st H rfl 58 rfl _ ber_zero ?_; clear H; intro gr wx H)) | ((with_reducible refine here_box ?_); refine wpList_box_st H rfl _ _ rfl _ rfl ?_; clear H; intro gb wx H)))
  exact HF.out _ (H.subm _)
theorem replay_ok {w0 w : World} {I : List It} (es : List Ev) (A : Option Addr) (n c : Nat) (q : QM) (la : List QA) (ht : tells es QM.zero [] = some (q, la)) (hl : es.length = n) (H : St w0 w I) [he : Has I (evIt A es)] (hck : ∀ e ∈ es, e.check = 0) (hn : n ≤ 150) (hc : n ≤ c) :
    Calls Try.prog 59 #[.slice A n c] w (fun ed w' => ∃ A1 c1 A2 c2, ed = .returned (.tuple #[.agg (qArr q A1 c1 A2 c2), .int .i64 0]) ∧ q.rd.length ≤ c1 ∧ q.ls.length ≤ c2 ∧ St w0 w' (rdIt q A1 :: lsIt q A2 :: I)) :=
  (replay_n es A n c hl H hck hn hc).mono fun _ _ h => h.1 _ _ ht
theorem spost_to {P : Program} {f : FuncId} {args : Array Value} {w W : World} {J : List It} {r : BM × QA × Bool} {m : Nat} (hl : r.1.es.length = m) (h : Calls P f args W (SPost w J r)) :
    Calls P f args W (fun ed w' => ∃ A c, ed = .returned (.tuple #[.agg (bArr r.1 A m c), r.2.1.val, .bool r.2.2, .int .i64 0]) ∧ m ≤ c ∧ St w w' (evIt A r.1.es :: J)) := by
  subst hl
  exact h
theorem evOf_brk {a b c d : Int} (h : (evOf a b c d).kind = 4) : evOf a b c d = ⟨4, 0, 0, 0, 0, 0⟩ := by
  unfold evOf at h ⊢
  split at h
  · cases h
  · next h1 =>
    rw [if_neg h1]
    split at h
    · cases h
    · next h2 =>
      rw [if_neg h2]
      split at h
      · cases h
      · next h3 => rw [if_neg h3]
theorem ans_eql_same (a b c d : Int) (w : World) : (binOp .eql 48 (.agg #[.int .i64 a, .int .i64 b, .int .i64 c, .int .i64 d]) (.agg #[.int .i64 a, .int .i64 b, .int .i64 c, .int .i64 d])).run Try.prog w = .ok (.bool true) w := by
  have h1 : Try.prog.underlying 48 = some (.struct (Try.prog.fieldsOf 48)) := by kernel_rfl
  have h2 : Try.prog.stoodInHeld 48 = false := by kernel_rfl
  rw [run_eql_struct, run_equalIn_struct _ _ _ _ _ h1 h2]
  simp [go_sem]
set_option maxRecDepth 100000 in
set_option maxHeartbeats 8000000 in
theorem serve_brk {w0 w : World} {I : List It} (b : BM) (A : Option Addr) (n c m : Nat) (hl : b.es.length = n) (hb : b.Ok m) (hm : m ≤ 150) (hc : n ≤ c) (H : St w0 w I) [h : Has I (evIt A b.es)] :
    Calls Try.prog 40 #[.agg (bArr b A n c), .agg #[.int .i64 4, .int .i64 0, .int .i64 0, .int .i64 0, .int .i64 0, .int .i64 0]] w (fun ed w' => ed = .returned (.tuple #[.agg #[.int .i64 0, .int .i64 0, .int .i64 0, .int .i64 0, .int .i64 0, .slice none 0 0], .agg #[.int .i64 0, .int .i64 0, .int .i64 0, .int .i64 0], .bool false, .int .i64 3]) ∧ St w0 w' I) := by
  have HF := Lib.hid (show ∀ W, St w0 W I → (fun ed w' => ed = Ending.returned (.tuple #[.agg #[.int .i64 0, .int .i64 0, .int .i64 0, .int .i64 0, .int .i64 0, .slice none 0 0], .agg #[.int .i64 0, .int .i64 0, .int .i64 0, .int .i64 0], .bool false, .int .i64 3]) ∧ St w0 w' I) (Ending.returned (.tuple #[.agg #[.int .i64 0, .int .i64 0, .int .i64 0, .int .i64 0, .int .i64 0, .slice none 0 0], .agg #[.int .i64 0, .int .i64 0, .int .i64 0, .int .i64 0], .bool false, .int .i64 3])) W from fun W h => ⟨rfl, h⟩)
  generalize (fun ed w' => ed = Ending.returned (.tuple #[.agg #[.int .i64 0, .int .i64 0, .int .i64 0, .int .i64 0, .int .i64 0, .slice none 0 0], .agg #[.int .i64 0, .int .i64 0, .int .i64 0, .int .i64 0], .bool false, .int .i64 3]) ∧ St w0 w' I) = POST at *
  have HI := Lib.hid h
  have HB := Lib.hid hb
  have HL := Lib.hid hl
  have CC := Lib.hid (fun W => ((check_any 4 0 0 0 0 0 W).mono (fun ed w' h => (⟨h.1, h.2⟩ : ed = .returned (.int .i64 0) ∧ Below W.heap.size W w'))))
  clear h hb hl
  obtain ⟨r, be, bf, bd, br, es⟩ := b
  unfold bArr
  dsimp only at HI HB HL ⊢
  go_enter Try.func40, Try.ntmps40
  go_wp2_with (first | ((with_reducible refine here_box ?_); first | (refine wpList_box_st H rfl 58 _ rfl _ rfl ?_; clear H; intro gb wx H) | (refine wpList_box_st H rfl 44 _ rfl _ rfl ?_; clear H; intro gx wx H)) | (go_at_call 26; refine (CC.out _).mono ?_; rintro ed w9 ⟨rfl, hb9⟩; replace H := H.below hb9; clear hb9) | (go_at_call 41; have h := HI.out; refine (check_st ⟨r, be, bf, bd, br, es⟩ A n c m HL.out HB.out hm hc H).mono ?_; clear H h; rintro ed wy ⟨rfl, H⟩) | (first | ((with_reducible refine here_load ?_); first | refine ldR H rfl _ _ rfl rfl (by kernel_rfl) ?_ | refine ldS H rfl _ _ rfl rfl (by rfl) ?_ | refine ldSG H (by rfl) _ _ rfl rfl (by rfl) ?_ | refine ldRG H (by rfl) _ _ rfl rfl (by kernel_rfl) ?_) | ((with_reducible refine here_store ?_); first | (refine stR H rfl _ _ _ rfl rfl rfl (by rfl) (by rfl) (by kernel_rfl) ?_; clear H; intro wx H) | (refine stS H rfl _ _ _ rfl rfl _ rfl (by rfl) (by rfl) (by rfl) ?_; clear H; intro wx H)) | ((with_reducible refine here_alloc ?_); first | (refine wpList_alloc_st H rfl 37 rfl _ q_zero ?_; clear H; intro gq wx H) | (refine wpList_alloc_st H rfl 48 rfl _ ans_zero ?_; clear H; intro ga wx H) | (refine wpList_alloc_st H rfl 44 rfl _ ev_zero ?_; clear H; intro ge wx H) | (refine wpList_alloc_st H rfl 58 rfl _ ber_zero ?_; clear H; intro gr wx H)) | ((with_reducible refine here_box ?_); refine wpList_box_st H rfl _ _ rfl _ rfl ?_; clear H; intro gb wx H)))
  have l4 : (loadVar 58 ⟨gr, 0, none⟩).run Try.prog wx = .ok (.agg #[.int .i64 0, .int .i64 0, .int .i64 0, .int .i64 0, .int .i64 0, .slice none 0 0]) wx := H.loadRow 58 gr row_Berth (P := Try.prog) (by kernel_rfl)
  have l5 : (loadVar 48 ⟨ga, 0, none⟩).run Try.prog wx = .ok (.agg #[.int .i64 0, .int .i64 0, .int .i64 0, .int .i64 0]) wx := H.loadRow 48 ga row_Answer (P := Try.prog) (by kernel_rfl)
  exact bodyPost_ret (v := .tuple #[.agg #[.int .i64 0, .int .i64 0, .int .i64 0, .int .i64 0, .int .i64 0, .slice none 0 0], .agg #[.int .i64 0, .int .i64 0, .int .i64 0, .int .i64 0], .bool false, .int .i64 3]) (by simp [results, Try.results40, asAddr, l4, l5]) rfl (HF.out _ (H.subm _))

end Go.Proofs.Ytjmncbfmjeeneaa

namespace Go.Proofs.Ytjmncbfmjeeneaa
open Go.RowKit

section
variable {P : Program} {ops : Array Oper} {rest : List Oper} {o : Oper} {a : Act} {w0 w w' : World} {I J : List It} {Q : Exit → Act → World → Prop} {K : Act → World → Prop}
theorem St.rawNew (H : St w0 w I) (ob : Obj) : St w0 (w.alloc ob) (.raw w.heap.size ob :: I) :=
  H.push ⟨rfl, rfl, rfl, by simp, fun k hk _ => Below.heap_alloc w _ k hk⟩ ⟨H.bel.size, heap_alloc_new w _⟩ (fun _ h => by cases h; exact Nat.le_refl _)
/-- a map is known -/
class HasR (I : List It) (g : Nat) (ob : outParam Obj) : Prop where
  mem : It.raw g ob ∈ I
instance (priority := high) HasR.here {g : Nat} {ob : Obj} : HasR (.raw g ob :: I) g ob := ⟨List.mem_cons_self ..⟩
instance (priority := low) HasR.there {g : Nat} {ob : Obj} {x : It} [h : HasR I g ob] : HasR (x :: I) g ob := ⟨List.mem_cons_of_mem _ h.mem⟩
/-- a map turns -/
class UpdR (I : List It) (g : Nat) (ob : outParam Obj) (ob' : Obj) (J : outParam (List It)) : Prop where
  out : Upd I (.raw g ob) (.raw g ob') J
instance (priority := high) UpdR.here {g : Nat} {ob ob' : Obj} : UpdR (.raw g ob :: I) g ob ob' (.raw g ob' :: I) := ⟨Upd.here⟩
instance (priority := low) UpdR.there {g : Nat} {ob ob' : Obj} {x : It} [h : UpdR I g ob ob' J] : UpdR (x :: I) g ob ob' (x :: J) := ⟨@Upd.there _ _ _ _ _ h.out⟩
theorem wpList_makeMap_st (H : St w0 w I) (hgd : o.guard = none) (t : TypeId) (ho : o.op = .makeMap t none)
    (h : ∀ g w', St w0 w' (.raw g (.map #[] 0) :: I) → wpList P ops Q rest (a.put o.dst (.map (some g))) w') : wpList P ops Q (o :: rest) a w :=
  wpList_plain hgd fun _ hK => by
    unfold Oper.wp execOp
    simp only [ho, Sem.run_bind, Option.map_none, run_makeMap, Result.andThen_ok, Sem.run_pure]
    exact hK _ _ (h _ _ (H.rawNew _))
theorem run_getMap {g : Nat} {es : Array MapEntry} {clock : Nat} (hb : w.heap[g]? = some (.map es clock)) : (getObj g).run P w = .ok (.map es clock) w := by simp [getObj, Sem.run, hb]
theorem run_setMap {g : Nat} {es : Array MapEntry} {clock : Nat} (ob : Obj) (hb : w.heap[g]? = some (.map es clock)) : (setObj g ob).run P w = .ok () { w with heap := w.heap.setIfInBounds g ob } := by
  simp [setObj, Sem.run, hb]
theorem run_insert_int {t kt et : TypeId} (ht : P.underlying t = some (.map kt et)) {ik : IntKind} (hk : P.underlying kt = some (.int ik)) {g : Nat} {es : Array MapEntry} {clock : Nat} (hb : w.heap[g]? = some (.map es clock)) (key : Int) (v : Value)
    (hf : Instr.findNow (.int ik) (.int ik key) es.toList 0 = some none) :
    (Instr.mapUpdate t (.map (some g)) (.int ik key) v).run P w = .ok () { w with heap := w.heap.setIfInBounds g (.map (es.push { key := .int ik key, val := v, born := clock }) (clock + 1)) } := by
  have h1 : (Instr.checkKey false 10000 kt (.int ik key)).run P w = .ok () w := by
    rw [show (10000 : Nat) = 9999 + 1 from rfl]
    unfold Instr.checkKey
    simp [Sem.run_bind, run_underlying hk w]
  have h2 : (Instr.findKey kt (.int ik key) es.toList).run P w = .ok none w := by
    unfold Instr.findKey
    simp [Sem.run_bind, run_underlying hk w, hf]
  unfold Instr.mapUpdate
  simp [Sem.run_bind, run_underlying ht w, run_getMap hb, h1, h2, run_setMap _ hb]
theorem wpList_insert_st {t kt et : TypeId} {g : Nat} {es : Array MapEntry} {clock : Nat} (H : St w0 w I) (hgd : o.guard = none) (m k x : Operand) (ho : o.op = .insert t m k x) (hm : a.eval m = .map (some g)) (key : Int) {ik : IntKind} (hkv : a.eval k = .int ik key) (v : Value) (hv : a.eval x = v)
    (ht : P.underlying t = some (.map kt et)) (hk : P.underlying kt = some (.int ik)) [U : UpdR I g (.map es clock) (.map (es.push { key := .int ik key, val := v, born := clock }) (clock + 1)) J] (hf : Instr.findNow (.int ik) (.int ik key) es.toList 0 = some none)
    (h : ∀ w', St w0 w' J → wpList P ops Q rest (a.put o.dst undef) w') : wpList P ops Q (o :: rest) a w := by
  have hU := U.out
  have hin : It.raw g (.map es clock) ∈ I := by
    obtain ⟨P, R, rfl, _⟩ := hU.out
    simp
  have hb := (H.all _ hin).2
  refine wpList_plain hgd fun _ hK => ?_
  have hlt : g < w.heap.size := It.lt (H.all _ hin) rfl
  have H' : St w0 { w with heap := w.heap.setIfInBounds g (.map (es.push { key := .int ik key, val := v, born := clock }) (clock + 1)) } J := by
    refine St.upd (U := hU) H rfl ⟨rfl, rfl, rfl, by simp, fun j hj hne => ?_⟩ ⟨(H.all _ hin).1, by simp [hlt]⟩ (fun _ h => .inl h)
    have : g ≠ j := fun e => hne (by rw [← e]; rfl)
    simp [this]
  unfold Oper.wp execOp
  simp only [ho, hm, hkv, hv, Sem.run_bind, run_insert_int ht hk hb key v hf, Result.andThen_ok, Sem.run_pure]
  exact hK _ _ (h _ H')
theorem run_lookup_int {t kt et : TypeId} (ht : P.underlying t = some (.map kt et)) {ik : IntKind} (hk : P.underlying kt = some (.int ik)) {g : Nat} {es : Array MapEntry} {clock : Nat} (hb : w.heap[g]? = some (.map es clock)) (key : Int) (i : Nat) (v : Value)
    (hf : Instr.findNow (.int ik) (.int ik key) es.toList 0 = some (some (i, v))) :
    (Instr.lookup t (.map (some g)) (.int ik key) false).run P w = .ok v w := by
  have h1 : ∀ b, (Instr.checkKey b 10000 kt (.int ik key)).run P w = .ok () w := fun b => by
    rw [show (10000 : Nat) = 9999 + 1 from rfl]
    unfold Instr.checkKey
    simp [Sem.run_bind, run_underlying hk w]
  have h2 : (Instr.findKey kt (.int ik key) es.toList).run P w = .ok (some (i, v)) w := by
    unfold Instr.findKey
    simp [Sem.run_bind, run_underlying hk w, hf]
  unfold Instr.lookup
  simp [Sem.run_bind, run_underlying ht w, run_getMap hb, h1, h2]
theorem wp_lookup_st {t kt et : TypeId} {g : Nat} {es : Array MapEntry} {clock : Nat} (H : St w0 w I) (m k : Operand) (ho : o.op = .lookup t m k false) (hm : a.eval m = .map (some g)) (key : Int) {ik : IntKind} (hkv : a.eval k = .int ik key) (ht : P.underlying t = some (.map kt et)) (hk : P.underlying kt = some (.int ik))
    [U : HasR I g (.map es clock)] (i : Nat) (v : Value) (hf : Instr.findNow (.int ik) (.int ik key) es.toList 0 = some (some (i, v))) (h : K (a.put o.dst v) w) : o.wp P a w K Q := by
  have hb := (H.all _ U.mem).2
  unfold Oper.wp execOp
  simp only [ho, hm, hkv, Sem.run_bind, run_lookup_int ht hk hb key i v hf, Result.andThen_ok, Sem.run_pure]
  exact h
/-- a call of a closure -/
theorem wp_callv_st {f : FuncId} {fn : Func} {y : Operand} {xs : Array Operand} {ats : Array TypeId} {caps : List Value} (ho : o.op = .call { callee := .value y, args := xs, argTypes := ats }) (hy : a.eval y = .func (.func f) #[] caps.toArray) (hf : P.funcs[f]? = some fn) (hname : (fn.name == "runtime.NumGoroutine") = false) (hb : fn.body.isSome = true)
    (vl : List Value) (hxs : xs.toList.map a.eval = vl) (h : Calls P f (vl ++ caps).toArray w fun e w' => ∃ v, e = .returned v ∧ K (a.put o.dst v) w') : o.wp P a w K Q := by
  have hxs : xs.map a.eval = vl.toArray := by
    subst hxs
    cases xs
    simp
  have h1 : ¬ fn.name = "runtime.NumGoroutine" := by simpa using hname
  have h2 : ¬ fn.body = none := by cases hx : fn.body <;> simp_all
  have hrun : (execOp a.eval o).run P w = .ok (.enter f (vl ++ caps).toArray) w := by
    unfold execOp
    simp [ho, resolve, Deferred.ofValue, invoke, callFunc, hf, h1, h2, hy, hxs]
  unfold Oper.wp
  rw [hrun]
  refine h.mono fun e w' he => ?_
  obtain ⟨v, rfl, hk⟩ := he
  exact hk
end

end Go.Proofs.Ytjmncbfmjeeneaa

namespace Go.Proofs.Ytjmncbfmjeeneaa
open Go.RowKit

theorem here_makeMap {P : Program} {ops : Array Oper} {rest : List Oper} {d : Option Tmp} {ty : TypeId} {t : TypeId} {p : String} {af : Array Edge} {gd : Option (Nat × Bool)} {a : Act} {w : World} {Q : Exit → Act → World → Prop} (h : wpList P ops Q (⟨d, .makeMap ty none, t, p, af, gd⟩ :: rest) a w) : wpList P ops Q (⟨d, .makeMap ty none, t, p, af, gd⟩ :: rest) a w := h
theorem here_insert {P : Program} {ops : Array Oper} {rest : List Oper} {d : Option Tmp} {ty : TypeId} {m k x : Operand} {t : TypeId} {p : String} {af : Array Edge} {gd : Option (Nat × Bool)} {a : Act} {w : World} {Q : Exit → Act → World → Prop} (h : wpList P ops Q (⟨d, .insert ty m k x, t, p, af, gd⟩ :: rest) a w) : wpList P ops Q (⟨d, .insert ty m k x, t, p, af, gd⟩ :: rest) a w := h
theorem here_boxAt (d : Nat) {P : Program} {ops : Array Oper} {rest : List Oper} {ty : TypeId} {x : Operand} {t : TypeId} {p : String} {af : Array Edge} {gd : Option (Nat × Bool)} {a : Act} {w : World} {Q : Exit → Act → World → Prop} (h : wpList P ops Q (⟨some d, .box ty x, t, p, af, gd⟩ :: rest) a w) : wpList P ops Q (⟨some d, .box ty x, t, p, af, gd⟩ :: rest) a w := h
def OnlyPost (w0 : World) (I : List It) (role : Int) (fv : Value) (ed : Ending) (w' : World) : Prop :=
  ∃ g2 g3, ed = .returned (.func (.func 89) #[] #[.pointer (some ⟨g2, 0, none⟩), .pointer (some ⟨g3, 0, none⟩)]) ∧ St w0 w' (.bl g2 3 #[.int .i64 role] :: .bl g3 128 #[fv] :: I)
theorem only_st {w0 w : World} {I : List It} (role : Int) (f : FuncId) (H : St w0 w I) :
    Calls Try.prog 70 #[.int .i64 role, .func (.func f) #[] #[]] w (OnlyPost w0 I role (.func (.func f) #[] #[])) := by
  have HF := Lib.hid (fun W g2 g3 (h : St w0 W (.bl g2 3 #[.int .i64 role] :: .bl g3 128 #[.func (.func f) #[] #[]] :: I)) => (show OnlyPost w0 I role (.func (.func f) #[] #[]) (.returned (.func (.func 89) #[] #[.pointer (some ⟨g2, 0, none⟩), .pointer (some ⟨g3, 0, none⟩)])) W from ⟨g2, g3, rfl, h⟩))
  generalize OnlyPost w0 I role (.func (.func f) #[] #[]) = POST at *
  go_enter Try.func70, Try.ntmps70
  go_wp2_with (first | ((with_reducible refine here_boxAt 2 ?_); refine wpList_box1_st H rfl _ _ rfl (.int .i64 role) rfl (by rfl) ?_; clear H; intro g2 wx H) | ((with_reducible refine here_boxAt 3 ?_); refine wpList_box1_st H rfl _ _ rfl (.func (.func f) #[] #[]) rfl (by rfl) ?_; clear H; intro g3 wx H))
  exact HF.out _ _ _ (H.subm _)
/-- the entries of acts -/
def actsEs (g1 h1 g2 h2 g4 h4 g5 h5 g6 h6 : Nat) : Array MapEntry :=
  #[⟨.int .i64 1, .func (.func 69) #[] #[], 0⟩, ⟨.int .i64 2, .func (.func 89) #[] #[.pointer (some ⟨g1, 0, none⟩), .pointer (some ⟨h1, 0, none⟩)], 1⟩, ⟨.int .i64 3, .func (.func 89) #[] #[.pointer (some ⟨g2, 0, none⟩), .pointer (some ⟨h2, 0, none⟩)], 2⟩, ⟨.int .i64 4, .func (.func 73) #[] #[], 3⟩, ⟨.int .i64 5, .func (.func 89) #[] #[.pointer (some ⟨g4, 0, none⟩), .pointer (some ⟨h4, 0, none⟩)], 4⟩, ⟨.int .i64 6, .func (.func 89) #[] #[.pointer (some ⟨g5, 0, none⟩), .pointer (some ⟨h5, 0, none⟩)], 5⟩, ⟨.int .i64 7, .func (.func 89) #[] #[.pointer (some ⟨g6, 0, none⟩), .pointer (some ⟨h6, 0, none⟩)], 6⟩]
def ActsPost (w0 : World) (I : List It) (ed : Ending) (w' : World) : Prop :=
  ∃ gm g1 h1 g2 h2 g4 h4 g5 h5 g6 h6, ed = .returned (.map (some gm)) ∧ St w0 w' (.raw gm (.map (actsEs g1 h1 g2 h2 g4 h4 g5 h5 g6 h6) 7) :: .bl g1 3 #[.int .i64 1] :: .bl h1 128 #[.func (.func 71) #[] #[]] :: .bl g2 3 #[.int .i64 1] :: .bl h2 128 #[.func (.func 72) #[] #[]] :: .bl g4 3 #[.int .i64 4] :: .bl h4 128 #[.func (.func 71) #[] #[]] :: .bl g5 3 #[.int .i64 4] :: .bl h5 128 #[.func (.func 74) #[] #[]] :: .bl g6 3 #[.int .i64 3] :: .bl h6 128 #[.func (.func 75) #[] #[]] :: I)
set_option maxRecDepth 100000 in
set_option maxHeartbeats 8000000 in
theorem acts_st {w0 w : World} {I : List It} (H : St w0 w I) :
    Calls Try.prog 63 #[] w (ActsPost w0 I) := by
  have HF := Lib.hid (fun W gm g1 h1 g2 h2 g4 h4 g5 h5 g6 h6 (h : St w0 W (.raw gm (.map (actsEs g1 h1 g2 h2 g4 h4 g5 h5 g6 h6) 7) :: .bl g1 3 #[.int .i64 1] :: .bl h1 128 #[.func (.func 71) #[] #[]] :: .bl g2 3 #[.int .i64 1] :: .bl h2 128 #[.func (.func 72) #[] #[]] :: .bl g4 3 #[.int .i64 4] :: .bl h4 128 #[.func (.func 71) #[] #[]] :: .bl g5 3 #[.int .i64 4] :: .bl h5 128 #[.func (.func 74) #[] #[]] :: .bl g6 3 #[.int .i64 3] :: .bl h6 128 #[.func (.func 75) #[] #[]] :: I)) => (show ActsPost w0 I (.returned (.map (some gm))) W from ⟨gm, g1, h1, g2, h2, g4, h4, g5, h5, g6, h6, rfl, h⟩))
  generalize ActsPost w0 I = POST at *
  go_enter Try.func63, Try.ntmps63
  go_wp2_with (first | ((with_reducible refine here_makeMap ?_); refine wpList_makeMap_st H rfl _ rfl ?_; clear H; intro gm wx H) | ((with_reducible refine here_insert ?_); first | (refine wpList_insert_st H rfl _ _ _ rfl rfl 1 rfl (.func (.func 69) #[] #[]) rfl Try.underlying129 Try.underlying3 (by kernel_rfl) ?_; clear H; intro wx H) | (refine wpList_insert_st H rfl _ _ _ rfl rfl 2 rfl (.func (.func 89) #[] #[.pointer (some ⟨g1, 0, none⟩), .pointer (some ⟨h1, 0, none⟩)]) rfl Try.underlying129 Try.underlying3 (by kernel_rfl) ?_; clear H; intro wx H) | (refine wpList_insert_st H rfl _ _ _ rfl rfl 3 rfl (.func (.func 89) #[] #[.pointer (some ⟨g2, 0, none⟩), .pointer (some ⟨h2, 0, none⟩)]) rfl Try.underlying129 Try.underlying3 (by kernel_rfl) ?_; clear H; intro wx H) | (refine wpList_insert_st H rfl _ _ _ rfl rfl 4 rfl (.func (.func 73) #[] #[]) rfl Try.underlying129 Try.underlying3 (by kernel_rfl) ?_; clear H; intro wx H) | (refine wpList_insert_st H rfl _ _ _ rfl rfl 5 rfl (.func (.func 89) #[] #[.pointer (some ⟨g4, 0, none⟩), .pointer (some ⟨h4, 0, none⟩)]) rfl Try.underlying129 Try.underlying3 (by kernel_rfl) ?_; clear H; intro wx H) | (refine wpList_insert_st H rfl _ _ _ rfl rfl 6 rfl (.func (.func 89) #[] #[.pointer (some ⟨g5, 0, none⟩), .pointer (some ⟨h5, 0, none⟩)]) rfl Try.underlying129 Try.underlying3 (by kernel_rfl) ?_; clear H; intro wx H) | (refine wpList_insert_st H rfl _ _ _ rfl rfl 7 rfl (.func (.func 89) #[] #[.pointer (some ⟨g6, 0, none⟩), .pointer (some ⟨h6, 0, none⟩)]) rfl Try.underlying129 Try.underlying3 (by kernel_rfl) ?_; clear H; intro wx H)) | (go_at_call 70; refine (only_st 1 71 H).mono ?_; clear H; rintro ed wx ⟨g1, h1, rfl, H⟩) | (go_at_call 70; refine (only_st 1 72 H).mono ?_; clear H; rintro ed wx ⟨g2, h2, rfl, H⟩) | (go_at_call 70; refine (only_st 4 71 H).mono ?_; clear H; rintro ed wx ⟨g4, h4, rfl, H⟩) | (go_at_call 70; refine (only_st 4 74 H).mono ?_; clear H; rintro ed wx ⟨g5, h5, rfl, H⟩) | (go_at_call 70; refine (only_st 3 75 H).mono ?_; clear H; rintro ed wx ⟨g6, h6, rfl, H⟩))
  have H9 : St w0 wx (.bl g6 3 #[.int .i64 3] :: .bl h6 128 #[.func (.func 75) #[] #[]] :: .bl g5 3 #[.int .i64 4] :: .bl h5 128 #[.func (.func 74) #[] #[]] :: .bl g4 3 #[.int .i64 4] :: .bl h4 128 #[.func (.func 71) #[] #[]] :: .bl g2 3 #[.int .i64 1] :: .bl h2 128 #[.func (.func 72) #[] #[]] :: .bl g1 3 #[.int .i64 1] :: .bl h1 128 #[.func (.func 71) #[] #[]] :: .raw gm (.map (actsEs g1 h1 g2 h2 g4 h4 g5 h5 g6 h6) 7) :: I) := H
  exact HF.out _ gm g1 h1 g2 h2 g4 h4 g5 h5 g6 h6 (H9.subm _)

end Go.Proofs.Ytjmncbfmjeeneaa

namespace Go.Proofs.Ytjmncbfmjeeneaa
open Go.RowKit

/-- a record -/
structure Rc where
  kind : Int
  queue : Int
  epoch : Int
  peer : Int
  ev : Ev

def Ev.zero : Ev := ⟨0, 0, 0, 0, 0, 0⟩
def Rc.cells (r : Rc) : Array Value := #[.int .i64 r.kind, .int .i64 r.queue, .int .i64 r.epoch, .int .i64 r.peer, .int .i64 r.ev.kind, .int .i64 r.ev.prod, .int .i64 r.ev.id, .int .i64 r.ev.body, .int .i64 r.ev.hep, .int .i64 r.ev.hno]
def Rc.val (r : Rc) : Value := .agg r.cells

/-- has a record of this kind an event? -/
def hasEv (k : Int) : Bool := k == 2 || k == 5

/-- what 'record' makes of raw numbers -/
def recOf (k a b c k' a' b' c' : Int) : Rc :=
  ⟨1 + pick k' 7, pick a' 4, pick b' 1048577, pick c' 5, if hasEv (1 + pick k' 7) then evOf k a b c else Ev.zero⟩

/-- what 'pack.Record' answers -/
def Rc.check (r : Rc) : Int :=
  if r.kind < 1 ∨ 7 < r.kind then 3
  else if (inB r.queue 0 3 && inB r.epoch 0 1048576 && inB r.peer 0 4) = false then 2
  else if hasEv r.kind then r.ev.check
  else if evNe r.ev.kind r.ev.prod r.ev.id r.ev.body r.ev.hep r.ev.hno 0 0 0 0 0 0 then 3 else 0

theorem hasEv_any (k : Int) (w : World) : Calls Try.prog 61 #[.int .i64 k] w fun e w' => e = .returned (.bool (hasEv k)) ∧ w = w' := by
  have HB := Lib.hid (show hasEv k = (k == 2 || k == 5) from rfl)
  generalize hasEv k = r at *
  cases h2 : k == 2 with
  | true =>
    go_enter Try.func61, Try.ntmps61
    go_wp2
    go_ret
    exact ⟨by rw [HB.out, h2]; rfl, rfl⟩
  | false =>
    go_enter Try.func61, Try.ntmps61
    go_wp2
    go_ret
    exact ⟨by rw [HB.out, h2]; rfl, rfl⟩

theorem rcBlk {w : World} {g : Nat} {t : TypeId} {r : Rc} (h : Blk w g t r.cells) :
    w.cell? ⟨g, 0, none⟩ = some (.int .i64 r.kind) ∧ w.cell? ⟨g, 1, none⟩ = some (.int .i64 r.queue) ∧ w.cell? ⟨g, 2, none⟩ = some (.int .i64 r.epoch) ∧ w.cell? ⟨g, 3, none⟩ = some (.int .i64 r.peer) ∧
      w.cell? ⟨g, 4, none⟩ = some (.int .i64 r.ev.kind) ∧ w.cell? ⟨g, 5, none⟩ = some (.int .i64 r.ev.prod) ∧ w.cell? ⟨g, 6, none⟩ = some (.int .i64 r.ev.id) ∧ w.cell? ⟨g, 7, none⟩ = some (.int .i64 r.ev.body) ∧
      w.cell? ⟨g, 8, none⟩ = some (.int .i64 r.ev.hep) ∧ w.cell? ⟨g, 9, none⟩ = some (.int .i64 r.ev.hno) :=
  ⟨h.cell 0, h.cell 1, h.cell 2, h.cell 3, h.cell 4, h.cell 5, h.cell 6, h.cell 7, h.cell 8, h.cell 9⟩

theorem rc_bad (q ep p : Int) (r : Rc) (hq : r.queue = q) (he : r.epoch = ep) (hp : r.peer = p) (h0 : 1 ≤ r.kind) (h1 : r.kind ≤ 7) (h : (inB q 0 3 && inB ep 0 1048576 && inB p 0 4) = false) : 2 = r.check := by
  subst hq he hp
  unfold Rc.check
  rw [if_neg (by omega), if_pos h]
theorem rc_ev (r : Rc) (h0 : 1 ≤ r.kind) (h1 : r.kind ≤ 7) (h : (inB r.queue 0 3 && inB r.epoch 0 1048576 && inB r.peer 0 4) = true) (he : hasEv r.kind = true) : r.ev.check = r.check := by
  unfold Rc.check
  rw [if_neg (by omega), if_neg (by rw [h]; simp), if_pos he]
theorem rc_no (r : Rc) (h0 : 1 ≤ r.kind) (h1 : r.kind ≤ 7) (h : (inB r.queue 0 3 && inB r.epoch 0 1048576 && inB r.peer 0 4) = true) (he : hasEv r.kind = false) :
    (if evNe r.ev.kind r.ev.prod r.ev.id r.ev.body r.ev.hep r.ev.hno 0 0 0 0 0 0 then 3 else 0) = r.check := by
  symm
  unfold Rc.check
  rw [if_neg (by omega), if_neg (by rw [h]; simp), if_neg (by rw [he]; simp)]

set_option maxHeartbeats 1000000 in
theorem recCheck_any (k q ep p a b c d e f : Int) (w : World) :
    Calls Try.prog 42 #[.agg #[.int .i64 k, .int .i64 q, .int .i64 ep, .int .i64 p, .int .i64 a, .int .i64 b, .int .i64 c, .int .i64 d, .int .i64 e, .int .i64 f]] w (Puts w (.int .i64 (Rc.check ⟨k, q, ep, p, ⟨a, b, c, d, e, f⟩⟩))) := by
  have hg : Try.prog.eqGuardType Try.prog.depth 44 = false := by kernel_rfl
  have hne := ev_neq
  by_cases k1 : k < 1
  · have H := Lib.hid (show 3 = Rc.check ⟨k, q, ep, p, ⟨a, b, c, d, e, f⟩⟩ by unfold Rc.check; rw [if_pos (.inl k1)])
    generalize Rc.check ⟨k, q, ep, p, ⟨a, b, c, d, e, f⟩⟩ = r at *
    go_enter Try.func42, Try.ntmps42
    go_wp2
    go_ret
    exact ⟨ret_int H.out, (Below.refl _ _).alloc (Nat.le_refl _) _⟩
  by_cases k7 : 7 < k
  · have H := Lib.hid (show 3 = Rc.check ⟨k, q, ep, p, ⟨a, b, c, d, e, f⟩⟩ by unfold Rc.check; rw [if_pos (.inr k7)])
    generalize Rc.check ⟨k, q, ep, p, ⟨a, b, c, d, e, f⟩⟩ = r at *
    go_enter Try.func42, Try.ntmps42
    go_wp2
    go_ret
    exact ⟨ret_int H.out, (Below.refl _ _).alloc (Nat.le_refl _) _⟩
  have HBad := Lib.hid (rc_bad q ep p ⟨k, q, ep, p, ⟨a, b, c, d, e, f⟩⟩ rfl rfl rfl (by simp; omega) (by simp; omega))
  have HEv := Lib.hid (rc_ev ⟨k, q, ep, p, ⟨a, b, c, d, e, f⟩⟩ (by simp; omega) (by simp; omega))
  have HNo := Lib.hid (rc_no ⟨k, q, ep, p, ⟨a, b, c, d, e, f⟩⟩ (by simp; omega) (by simp; omega))
  generalize Rc.check ⟨k, q, ep, p, ⟨a, b, c, d, e, f⟩⟩ = r at *
  cases h1 : inB q 0 3 with
  | false =>
    go_enter Try.func42, Try.ntmps42
    go_wp2_with fail
    refine (within_any _ _ _ _).mono ?_
    rintro e w1 ⟨rfl, rfl⟩
    rw [h1]
    go_wp2
    go_ret
    exact ⟨ret_int (HBad.out (by rw [h1]; rfl)), (Below.refl _ _).alloc (Nat.le_refl _) _⟩
  | true =>
    cases h2 : inB ep 0 1048576 with
    | false =>
      go_enter Try.func42, Try.ntmps42
      go_wp2_with fail
      refine (within_any _ _ _ _).mono ?_
      rintro e w1 ⟨rfl, rfl⟩
      rw [h1]
      go_wp2_with fail
      refine (within_any _ _ _ _).mono ?_
      rintro e w1 ⟨rfl, rfl⟩
      rw [h2]
      go_wp2
      go_ret
      exact ⟨ret_int (HBad.out (by rw [h1, h2]; rfl)), (Below.refl _ _).alloc (Nat.le_refl _) _⟩
    | true =>
      cases h3 : inB p 0 4 with
      | false =>
        go_enter Try.func42, Try.ntmps42
        go_wp2_with fail
        refine (within_any _ _ _ _).mono ?_
        rintro e w1 ⟨rfl, rfl⟩
        rw [h1]
        go_wp2_with fail
        refine (within_any _ _ _ _).mono ?_
        rintro e w1 ⟨rfl, rfl⟩
        rw [h2]
        go_wp2_with fail
        refine (within_any _ _ _ _).mono ?_
        rintro e w1 ⟨rfl, rfl⟩
        rw [h3]
        go_wp2
        go_ret
        exact ⟨ret_int (HBad.out (by rw [h1, h2, h3]; rfl)), (Below.refl _ _).alloc (Nat.le_refl _) _⟩
      | true =>
        cases he : hasEv k with
        | true =>
          have HE := Lib.hid (HEv.out (by simp [h1, h2, h3]) he)
          clear HBad HEv HNo
          go_enter Try.func42, Try.ntmps42
          go_wp2_with fail
          refine (within_any _ _ _ _).mono ?_
          rintro e w1 ⟨rfl, rfl⟩
          rw [h1]
          go_wp2_with fail
          refine (within_any _ _ _ _).mono ?_
          rintro e w1 ⟨rfl, rfl⟩
          rw [h2]
          go_wp2_with fail
          refine (within_any _ _ _ _).mono ?_
          rintro e w1 ⟨rfl, rfl⟩
          rw [h3]
          go_wp2_with fail
          refine (hasEv_any _ _).mono ?_
          rintro e w1 ⟨rfl, rfl⟩
          rw [he]
          go_wp2_with fail
          refine (check_any _ _ _ _ _ _ _).mono ?_
          rintro e w1 ⟨rfl, hb⟩
          go_wp2
          go_ret
          exact ⟨ret_int HE.out, ((Below.refl _ _).alloc (Nat.le_refl _) _).trans (hb.mono (by simp))⟩
        | false =>
          have HE := Lib.hid (HNo.out (by simp [h1, h2, h3]) he)
          clear HBad HEv HNo
          cases h4 : evNe a b c d e f 0 0 0 0 0 0 with
          | true =>
            go_enter Try.func42, Try.ntmps42
            go_wp2_with fail
            refine (within_any _ _ _ _).mono ?_
            rintro e w1 ⟨rfl, rfl⟩
            rw [h1]
            go_wp2_with fail
            refine (within_any _ _ _ _).mono ?_
            rintro e w1 ⟨rfl, rfl⟩
            rw [h2]
            go_wp2_with fail
            refine (within_any _ _ _ _).mono ?_
            rintro e w1 ⟨rfl, rfl⟩
            rw [h3]
            go_wp2_with fail
            refine (hasEv_any _ _).mono ?_
            rintro e w1 ⟨rfl, rfl⟩
            rw [he]
            go_wp2
            go_ret
            exact ⟨ret_int (by rw [← HE.out]; simp only [h4]; rfl), (Below.refl _ _).alloc (Nat.le_refl _) _⟩
          | false =>
            go_enter Try.func42, Try.ntmps42
            go_wp2_with fail
            refine (within_any _ _ _ _).mono ?_
            rintro e w1 ⟨rfl, rfl⟩
            rw [h1]
            go_wp2_with fail
            refine (within_any _ _ _ _).mono ?_
            rintro e w1 ⟨rfl, rfl⟩
            rw [h2]
            go_wp2_with fail
            refine (within_any _ _ _ _).mono ?_
            rintro e w1 ⟨rfl, rfl⟩
            rw [h3]
            go_wp2_with fail
            refine (hasEv_any _ _).mono ?_
            rintro e w1 ⟨rfl, rfl⟩
            rw [he]
            go_wp2
            go_ret
            exact ⟨ret_int (by rw [← HE.out]; simp only [h4]; rfl), (Below.refl _ _).alloc (Nat.le_refl _) _⟩

end Go.Proofs.Ytjmncbfmjeeneaa

namespace Go.Proofs.Ytjmncbfmjeeneaa
open Go.RowKit

theorem row_Record : (match Try.prog.underlying 67 with | some (.struct _) | some (.array _ _) => true | _ => false) = true := by kernel_rfl
instance rowTy_Record : RowTy 67 10 := ⟨by kernel_rfl, by kernel_rfl⟩
instance scTy_act : ScTy 128 := ⟨by kernel_rfl, by kernel_rfl⟩
set_option maxRecDepth 100000 in
set_option maxHeartbeats 8000000 in
theorem a1_st {w0 w : World} {I : List It} (b : BM) (A : Option Addr) (n c m : Nat) (k qu ep pe e0 e1 e2 e3 e4 e5 : Int) (hl : b.es.length = n) (hb : b.Ok m) (hm : m ≤ 150) (hc : n ≤ c) (H : St w0 w I) [h : Has I (evIt A b.es)] :
    Calls Try.prog 69 #[.agg (bArr b A n c), .agg #[.int .i64 k, .int .i64 qu, .int .i64 ep, .int .i64 pe, .int .i64 e0, .int .i64 e1, .int .i64 e2, .int .i64 e3, .int .i64 e4, .int .i64 e5]] w (BPost w0 I (b.makeR ep)) := by
  have CK := Lib.hid (fun W J (H : St w0 W J) (h : Has J (evIt A b.es)) => make_st (h := h) b A n c m ep hl hb hm hc H)
  have HFm := Lib.hid (fun W (r : BM × Int) A' c' (h1 : r.1.es.length ≤ c') (h2 : St w0 W (evIt A' r.1.es :: I)) => (BPost.mk rfl h1 h2 : BPost w0 I r (.returned (.tuple #[.agg (bArr r.1 A' r.1.es.length c'), .int .i64 r.2])) W))
  generalize b.makeR ep = r at *
  obtain ⟨r1, r2⟩ := r
  have HF := Lib.hid (fun W A' c' h1 h2 => HFm.out W (r1, r2) A' c' h1 h2)
  dsimp only at HF
  clear HFm
  generalize BPost w0 I (r1, r2) = POST at *
  skip
  go_enter Try.func69, Try.ntmps69
  go_upto_region 1 with (first | ((with_reducible refine here_boxAt 2 ?_); refine wpList_box_st H rfl _ _ rfl _ rfl ?_; clear H; intro gb wx H) | ((with_reducible refine here_boxAt 3 ?_); refine wpList_box_st H rfl _ _ rfl _ rfl ?_; clear H; intro gx wx H) | (first | ((with_reducible refine here_load ?_); first | refine ldR H rfl _ _ rfl rfl (by kernel_rfl) ?_ | refine ldS H rfl _ _ rfl rfl (by rfl) ?_ | refine ldSG H (by rfl) _ _ rfl rfl (by rfl) ?_ | refine ldRG H (by rfl) _ _ rfl rfl (by kernel_rfl) ?_) | ((with_reducible refine here_store ?_); first | (refine stR H rfl _ _ _ rfl rfl rfl (by rfl) (by rfl) (by kernel_rfl) ?_; clear H; intro wx H) | (refine stS H rfl _ _ _ rfl rfl _ rfl (by rfl) (by rfl) (by rfl) ?_; clear H; intro wx H)) | ((with_reducible refine here_alloc ?_); first | (refine wpList_alloc_st H rfl 37 rfl _ q_zero ?_; clear H; intro gq wx H) | (refine wpList_alloc_st H rfl 48 rfl _ ans_zero ?_; clear H; intro ga wx H) | (refine wpList_alloc_st H rfl 44 rfl _ ev_zero ?_; clear H; intro ge wx H) | (refine wpList_alloc_st H rfl 58 rfl _ ber_zero ?_; clear H; intro gr wx H)) | ((with_reducible refine here_box ?_); refine wpList_box_st H rfl _ _ rfl _ rfl ?_; clear H; intro gb wx H)))
  go_wp2_with (first | (go_at_call 38; refine (CK.out _ _ H inferInstance).mono ?_; clear H; rintro ed wy ⟨A9, c9, rfl, hc9, H⟩) | (first | ((with_reducible refine here_load ?_); first | refine ldR H rfl _ _ rfl rfl (by kernel_rfl) ?_ | refine ldS H rfl _ _ rfl rfl (by rfl) ?_ | refine ldSG H (by rfl) _ _ rfl rfl (by rfl) ?_ | refine ldRG H (by rfl) _ _ rfl rfl (by kernel_rfl) ?_) | ((with_reducible refine here_store ?_); first | (refine stR H rfl _ _ _ rfl rfl rfl (by rfl) (by rfl) (by kernel_rfl) ?_; clear H; intro wx H) | (refine stS H rfl _ _ _ rfl rfl _ rfl (by rfl) (by rfl) (by rfl) ?_; clear H; intro wx H)) | ((with_reducible refine here_alloc ?_); first | (refine wpList_alloc_st H rfl 37 rfl _ q_zero ?_; clear H; intro gq2 wx H) | (refine wpList_alloc_st H rfl 48 rfl _ ans_zero ?_; clear H; intro ga2 wx H) | (refine wpList_alloc_st H rfl 44 rfl _ ev_zero ?_; clear H; intro ge2 wx H) | (refine wpList_alloc_st H rfl 58 rfl _ ber_zero ?_; clear H; intro gr2 wx H)) | ((with_reducible refine here_box ?_); refine wpList_box_st H rfl _ _ rfl _ rfl ?_; clear H; intro gb2 wx H)))
  have l4 : (loadVar 58 ⟨gr, 0, none⟩).run Try.prog wx = .ok (.agg (bArr r1 A9 r1.es.length c9)) wx := H.loadRow 58 gr row_Berth (P := Try.prog) (by kernel_rfl)
  exact bodyPost_ret (v := .tuple #[.agg (bArr r1 A9 r1.es.length c9), .int .i64 r2]) (by simp [results, Try.results69, asAddr, l4]) rfl (HF.out _ _ _ hc9 (H.subm _))
set_option maxRecDepth 100000 in
set_option maxHeartbeats 8000000 in
theorem a3_st {w0 w : World} {I : List It} (b : BM) (A : Option Addr) (n c m : Nat) (k qu ep pe e0 e1 e2 e3 e4 e5 : Int) (hl : b.es.length = n) (hb : b.Ok m) (hm : m ≤ 150) (hc : n ≤ c) (H : St w0 w I) [h : Has I (evIt A b.es)] :
    Calls Try.prog 73 #[.agg (bArr b A n c), .agg #[.int .i64 k, .int .i64 qu, .int .i64 ep, .int .i64 pe, .int .i64 e0, .int .i64 e1, .int .i64 e2, .int .i64 e3, .int .i64 e4, .int .i64 e5]] w (BPost w0 I (b.beginR ep pe)) := by
  have CK := Lib.hid (fun W J (H : St w0 W J) (h : Has J (evIt A b.es)) => begin_st (h := h) b A n c m ep pe hl hb hm hc H)
  have HFm := Lib.hid (fun W (r : BM × Int) A' c' (h1 : r.1.es.length ≤ c') (h2 : St w0 W (evIt A' r.1.es :: I)) => (BPost.mk rfl h1 h2 : BPost w0 I r (.returned (.tuple #[.agg (bArr r.1 A' r.1.es.length c'), .int .i64 r.2])) W))
  generalize b.beginR ep pe = r at *
  obtain ⟨r1, r2⟩ := r
  have HF := Lib.hid (fun W A' c' h1 h2 => HFm.out W (r1, r2) A' c' h1 h2)
  dsimp only at HF
  clear HFm
  generalize BPost w0 I (r1, r2) = POST at *
  skip
  go_enter Try.func73, Try.ntmps73
  go_upto_region 1 with (first | ((with_reducible refine here_boxAt 2 ?_); refine wpList_box_st H rfl _ _ rfl _ rfl ?_; clear H; intro gb wx H) | ((with_reducible refine here_boxAt 3 ?_); refine wpList_box_st H rfl _ _ rfl _ rfl ?_; clear H; intro gx wx H) | (first | ((with_reducible refine here_load ?_); first | refine ldR H rfl _ _ rfl rfl (by kernel_rfl) ?_ | refine ldS H rfl _ _ rfl rfl (by rfl) ?_ | refine ldSG H (by rfl) _ _ rfl rfl (by rfl) ?_ | refine ldRG H (by rfl) _ _ rfl rfl (by kernel_rfl) ?_) | ((with_reducible refine here_store ?_); first | (refine stR H rfl _ _ _ rfl rfl rfl (by rfl) (by rfl) (by kernel_rfl) ?_; clear H; intro wx H) | (refine stS H rfl _ _ _ rfl rfl _ rfl (by rfl) (by rfl) (by rfl) ?_; clear H; intro wx H)) | ((with_reducible refine here_alloc ?_); first | (refine wpList_alloc_st H rfl 37 rfl _ q_zero ?_; clear H; intro gq wx H) | (refine wpList_alloc_st H rfl 48 rfl _ ans_zero ?_; clear H; intro ga wx H) | (refine wpList_alloc_st H rfl 44 rfl _ ev_zero ?_; clear H; intro ge wx H) | (refine wpList_alloc_st H rfl 58 rfl _ ber_zero ?_; clear H; intro gr wx H)) | ((with_reducible refine here_box ?_); refine wpList_box_st H rfl _ _ rfl _ rfl ?_; clear H; intro gb wx H)))
  go_wp2_with (first | (go_at_call 46; refine (CK.out _ _ H inferInstance).mono ?_; clear H; rintro ed wy ⟨A9, c9, rfl, hc9, H⟩) | (first | ((with_reducible refine here_load ?_); first | refine ldR H rfl _ _ rfl rfl (by kernel_rfl) ?_ | refine ldS H rfl _ _ rfl rfl (by rfl) ?_ | refine ldSG H (by rfl) _ _ rfl rfl (by rfl) ?_ | refine ldRG H (by rfl) _ _ rfl rfl (by kernel_rfl) ?_) | ((with_reducible refine here_store ?_); first | (refine stR H rfl _ _ _ rfl rfl rfl (by rfl) (by rfl) (by kernel_rfl) ?_; clear H; intro wx H) | (refine stS H rfl _ _ _ rfl rfl _ rfl (by rfl) (by rfl) (by rfl) ?_; clear H; intro wx H)) | ((with_reducible refine here_alloc ?_); first | (refine wpList_alloc_st H rfl 37 rfl _ q_zero ?_; clear H; intro gq2 wx H) | (refine wpList_alloc_st H rfl 48 rfl _ ans_zero ?_; clear H; intro ga2 wx H) | (refine wpList_alloc_st H rfl 44 rfl _ ev_zero ?_; clear H; intro ge2 wx H) | (refine wpList_alloc_st H rfl 58 rfl _ ber_zero ?_; clear H; intro gr2 wx H)) | ((with_reducible refine here_box ?_); refine wpList_box_st H rfl _ _ rfl _ rfl ?_; clear H; intro gb2 wx H)))
  have l4 : (loadVar 58 ⟨gr, 0, none⟩).run Try.prog wx = .ok (.agg (bArr r1 A9 r1.es.length c9)) wx := H.loadRow 58 gr row_Berth (P := Try.prog) (by kernel_rfl)
  exact bodyPost_ret (v := .tuple #[.agg (bArr r1 A9 r1.es.length c9), .int .i64 r2]) (by simp [results, Try.results73, asAddr, l4]) rfl (HF.out _ _ _ hc9 (H.subm _))
set_option maxRecDepth 100000 in
set_option maxHeartbeats 8000000 in
theorem a5_st {w0 w : World} {I : List It} (b : BM) (A : Option Addr) (n c m : Nat) (k qu ep pe e0 e1 e2 e3 e4 e5 : Int) (hl : b.es.length = n) (hb : b.Ok m) (hm : m ≤ 150) (hc : n ≤ c) (h1 : 0 ≤ ep) (h2 : ep ≤ 1048576) (H : St w0 w I) [h : Has I (evIt A b.es)] :
    Calls Try.prog 75 #[.agg (bArr b A n c), .agg #[.int .i64 k, .int .i64 qu, .int .i64 ep, .int .i64 pe, .int .i64 e0, .int .i64 e1, .int .i64 e2, .int .i64 e3, .int .i64 e4, .int .i64 e5]] w (BPost w0 I (b.forgetR (ep + 1))) := by
  have CK := Lib.hid (fun W J (H : St w0 W J) (h : Has J (evIt A b.es)) => forget_st (h := h) b A n c m (ep + 1) hl hb hm hc H)
  have HFm := Lib.hid (fun W (r : BM × Int) A' c' (h1 : r.1.es.length ≤ c') (h2 : St w0 W (evIt A' r.1.es :: I)) => (BPost.mk rfl h1 h2 : BPost w0 I r (.returned (.tuple #[.agg (bArr r.1 A' r.1.es.length c'), .int .i64 r.2])) W))
  generalize b.forgetR (ep + 1) = r at *
  obtain ⟨r1, r2⟩ := r
  have HF := Lib.hid (fun W A' c' h1 h2 => HFm.out W (r1, r2) A' c' h1 h2)
  dsimp only at HF
  clear HFm
  generalize BPost w0 I (r1, r2) = POST at *
  have w1 : IntKind.i64.wrap (ep + 1) = ep + 1 := IntWalk.i64_in _ (by omega)
  go_enter Try.func75, Try.ntmps75
  go_upto_region 1 with (first | ((with_reducible refine here_boxAt 2 ?_); refine wpList_box_st H rfl _ _ rfl _ rfl ?_; clear H; intro gb wx H) | ((with_reducible refine here_boxAt 3 ?_); refine wpList_box_st H rfl _ _ rfl _ rfl ?_; clear H; intro gx wx H) | (first | ((with_reducible refine here_load ?_); first | refine ldR H rfl _ _ rfl rfl (by kernel_rfl) ?_ | refine ldS H rfl _ _ rfl rfl (by rfl) ?_ | refine ldSG H (by rfl) _ _ rfl rfl (by rfl) ?_ | refine ldRG H (by rfl) _ _ rfl rfl (by kernel_rfl) ?_) | ((with_reducible refine here_store ?_); first | (refine stR H rfl _ _ _ rfl rfl rfl (by rfl) (by rfl) (by kernel_rfl) ?_; clear H; intro wx H) | (refine stS H rfl _ _ _ rfl rfl _ rfl (by rfl) (by rfl) (by rfl) ?_; clear H; intro wx H)) | ((with_reducible refine here_alloc ?_); first | (refine wpList_alloc_st H rfl 37 rfl _ q_zero ?_; clear H; intro gq wx H) | (refine wpList_alloc_st H rfl 48 rfl _ ans_zero ?_; clear H; intro ga wx H) | (refine wpList_alloc_st H rfl 44 rfl _ ev_zero ?_; clear H; intro ge wx H) | (refine wpList_alloc_st H rfl 58 rfl _ ber_zero ?_; clear H; intro gr wx H)) | ((with_reducible refine here_box ?_); refine wpList_box_st H rfl _ _ rfl _ rfl ?_; clear H; intro gb wx H)))
  go_wp2_with (first | (go_at_call 76; refine (CK.out _ _ H inferInstance).mono ?_; clear H; rintro ed wy ⟨A9, c9, rfl, hc9, H⟩) | (first | ((with_reducible refine here_load ?_); first | refine ldR H rfl _ _ rfl rfl (by kernel_rfl) ?_ | refine ldS H rfl _ _ rfl rfl (by rfl) ?_ | refine ldSG H (by rfl) _ _ rfl rfl (by rfl) ?_ | refine ldRG H (by rfl) _ _ rfl rfl (by kernel_rfl) ?_) | ((with_reducible refine here_store ?_); first | (refine stR H rfl _ _ _ rfl rfl rfl (by rfl) (by rfl) (by kernel_rfl) ?_; clear H; intro wx H) | (refine stS H rfl _ _ _ rfl rfl _ rfl (by rfl) (by rfl) (by rfl) ?_; clear H; intro wx H)) | ((with_reducible refine here_alloc ?_); first | (refine wpList_alloc_st H rfl 37 rfl _ q_zero ?_; clear H; intro gq2 wx H) | (refine wpList_alloc_st H rfl 48 rfl _ ans_zero ?_; clear H; intro ga2 wx H) | (refine wpList_alloc_st H rfl 44 rfl _ ev_zero ?_; clear H; intro ge2 wx H) | (refine wpList_alloc_st H rfl 58 rfl _ ber_zero ?_; clear H; intro gr2 wx H)) | ((with_reducible refine here_box ?_); refine wpList_box_st H rfl _ _ rfl _ rfl ?_; clear H; intro gb2 wx H)))
  have l4 : (loadVar 58 ⟨gr, 0, none⟩).run Try.prog wx = .ok (.agg (bArr r1 A9 r1.es.length c9)) wx := H.loadRow 58 gr row_Berth (P := Try.prog) (by kernel_rfl)
  exact bodyPost_ret (v := .tuple #[.agg (bArr r1 A9 r1.es.length c9), .int .i64 r2]) (by simp [results, Try.results75, asAddr, l4]) rfl (HF.out _ _ _ hc9 (H.subm _))

end Go.Proofs.Ytjmncbfmjeeneaa

namespace Go.Proofs.Ytjmncbfmjeeneaa
open Go.RowKit

set_option linter.unusedVariables false
set_option maxRecDepth 100000 in
set_option maxHeartbeats 8000000 in
theorem add_st {w0 w : World} {I : List It} (r be bf bd br : Int) (es : List Ev) (A : Option Addr) (n c m M : Nat) (k qu ep pe e0 e1 e2 e3 e4 e5 : Int) (hl : es.length = n) (hb : (⟨r, be, bf, bd, br, es⟩ : BM).Ok m) (hm : m ≤ 150) (hc : n ≤ c) (hbn : (⟨r, be, bf, bd, br, es ++ [⟨e0, e1, e2, e3, e4, e5⟩]⟩ : BM).Ok M) (hM : M ≤ 150) (H : St w0 w I) [h : Has I (evIt A es)] :
    Calls Try.prog 71 #[.agg (bArr ⟨r, be, bf, bd, br, es⟩ A n c), .agg #[.int .i64 k, .int .i64 qu, .int .i64 ep, .int .i64 pe, .int .i64 e0, .int .i64 e1, .int .i64 e2, .int .i64 e3, .int .i64 e4, .int .i64 e5]] w (BPost w0 I (⟨r, be, bf, bd, br, es ++ [⟨e0, e1, e2, e3, e4, e5⟩]⟩, 0)) := by
  have hn : n ≤ 150 := by have := hb.len; have h8 : n ≤ m := hl ▸ this; omega
  have HI := Lib.hid h
  have HB := Lib.hid hb
  have HL := Lib.hid hl
  clear h hb hl
  unfold bArr
  dsimp only
  have HBN := Lib.hid hbn
  have HLN := Lib.hid (show (es ++ [(⟨e0, e1, e2, e3, e4, e5⟩ : Ev)]).length = n + 1 from by rw [List.length_append, HL.out]; rfl)
  clear hbn
  have HF := Lib.hid (fun W A' c' (h1 : n + 1 ≤ c') (h2 : St w0 W (evIt A' (es ++ [⟨e0, e1, e2, e3, e4, e5⟩]) :: I)) => (BPost.mk (r := (⟨r, be, bf, bd, br, es ++ [⟨e0, e1, e2, e3, e4, e5⟩]⟩, 0)) HLN.out h1 h2 : BPost w0 I (⟨r, be, bf, bd, br, es ++ [⟨e0, e1, e2, e3, e4, e5⟩]⟩, 0) (.returned (.tuple #[.agg #[.int .i64 r, .int .i64 be, .int .i64 bf, .int .i64 bd, .int .i64 br, .slice A' (n + 1) c'], .int .i64 0])) W))
  generalize BPost w0 I (⟨r, be, bf, bd, br, es ++ [⟨e0, e1, e2, e3, e4, e5⟩]⟩, 0) = POST at *
  go_enter Try.func71, Try.ntmps71
  go_upto_region 1 with (first | ((with_reducible refine here_boxAt 2 ?_); refine wpList_box_st H rfl _ _ rfl _ rfl ?_; clear H; intro gb wx H) | ((with_reducible refine here_boxAt 3 ?_); refine wpList_box_st H rfl _ _ rfl _ rfl ?_; clear H; intro gx wx H) | (first | ((with_reducible refine here_load ?_); first | refine ldR H rfl _ _ rfl rfl (by kernel_rfl) ?_ | refine ldS H rfl _ _ rfl rfl (by rfl) ?_ | refine ldSG H (by rfl) _ _ rfl rfl (by rfl) ?_ | refine ldRG H (by rfl) _ _ rfl rfl (by kernel_rfl) ?_) | ((with_reducible refine here_store ?_); first | (refine stR H rfl _ _ _ rfl rfl rfl (by rfl) (by rfl) (by kernel_rfl) ?_; clear H; intro wx H) | (refine stS H rfl _ _ _ rfl rfl _ rfl (by rfl) (by rfl) (by rfl) ?_; clear H; intro wx H)) | ((with_reducible refine here_alloc ?_); first | (refine wpList_alloc_st H rfl 37 rfl _ q_zero ?_; clear H; intro gq wx H) | (refine wpList_alloc_st H rfl 48 rfl _ ans_zero ?_; clear H; intro ga wx H) | (refine wpList_alloc_st H rfl 44 rfl _ ev_zero ?_; clear H; intro ge wx H) | (refine wpList_alloc_st H rfl 58 rfl _ ber_zero ?_; clear H; intro gr wx H)) | ((with_reducible refine here_box ?_); refine wpList_box_st H rfl _ _ rfl _ rfl ?_; clear H; intro gb wx H)))
  (try simp only [Act.put])
  have h := HI.out
  replace H := H.nilOwn 44 6
  refine startS (H.subm (.bl gx 67 #[.int .i64 k, .int .i64 qu, .int .i64 ep, .int .i64 pe, .int .i64 e0, .int .i64 e1, .int .i64 e2, .int .i64 e3, .int .i64 e4, .int .i64 e5] :: I)) (by kernel_rfl) (fun HS => ?_)
  replace H := H.drew
  refine takeV (i := 0) (v := ?_) rfl (by kernel_rfl) (by kernel_rfl) (by kernel_rfl) (fun _ _ _ h => h) (by rfl) ?_ HS ?_
  rotate_left
  · (intro W hW; go_simp; try with_reducible rfl)
  (try simp only [Act.put, List.setIfInBounds_toArray, List.set_cons_zero, List.set_cons_succ])
  refine takeV (i := 3) (v := ?_) rfl (by kernel_rfl) (by kernel_rfl) (by kernel_rfl) (fun _ _ _ h => h) (by rfl) ?_ HS ?_
  rotate_left
  · (intro W hW; go_simp; try with_reducible rfl)
  (try simp only [Act.put, List.setIfInBounds_toArray, List.set_cons_zero, List.set_cons_succ])
  refine takePart_st (i := 4) (m := 6) 44 _ rfl rfl rfl row_Event (by kernel_rfl) (by rfl) #[.int .i64 e0, .int .i64 e1, .int .i64 e2, .int .i64 e3, .int .i64 e4, .int .i64 e5] (by rfl) (by kernel_rfl) (by kernel_rfl) (by kernel_rfl) (fun _ _ _ _ h => h) (by rfl) HS ?_
  (try simp only [Act.put, List.setIfInBounds_toArray, List.set_cons_zero, List.set_cons_succ])
  refine branchH [1, 5] (by kernel_rfl) (by kernel_rfl) (AllStep.cons ?_ (AllStep.cons ?_ AllStep.nil))
  · refine stepH_do (i := 1) rfl (by rfl) ?_
    refine wp_load1_st H 23 _ rfl rfl sc_Evs (by rfl) ?_
    replace HS := HS.of H
    refine ⟨HS, ?_⟩
    (try simp only [Act.put, List.setIfInBounds_toArray, List.set_cons_zero, List.set_cons_succ])
    refine branchH [2, 5] (by kernel_rfl) (by kernel_rfl) (AllStep.cons ?_ (AllStep.cons ?_ AllStep.nil))
    · refine stepH_do (i := 2) rfl (by rfl) ?_
      refine wp_append_st (v := .slice none 0 0) H _ _ 23 rfl rfl rfl Try.underlying23 _ _ ev_info (by rfl) (by omega) (H.evReads (es := es) HL.out) (qevCells_one _) (by simp only [maxLen]; omega) (by omega) ?_
      clear H
      intro A7 c7 wx hc7 hc7' H
      simp only [Nat.zero_add, List.nil_append] at H hc7 ⊢
      replace HS := HS.of H
      refine ⟨HS, ?_⟩
      (try simp only [Act.put, List.setIfInBounds_toArray, List.set_cons_zero, List.set_cons_succ])
      refine branchH [5] (by kernel_rfl) (by kernel_rfl) (AllStep.cons ?_ AllStep.nil)
      refine stepH_do (i := 5) rfl (by rfl) ?_
      refine wp_buildSlice1_st H 23 _ rfl 44 Try.underlying23 _ rfl _ ev_info2 (by rfl) (by rfl) ?_
      clear H
      intro gs wx H
      replace HS := HS.of H
      refine ⟨HS, ?_⟩
      (try simp only [Act.put, List.setIfInBounds_toArray, List.set_cons_zero, List.set_cons_succ])
      refine branchH [6] (by kernel_rfl) (by kernel_rfl) (AllStep.cons ?_ AllStep.nil)
      refine stepH_do (i := 6) rfl (by rfl) ?_
      refine wp_appendB_st (v := .slice A7 n c7) H _ _ 23 rfl rfl rfl Try.underlying23 _ _ ev_info (by rfl) (by rfl) (by rfl) (by kernel_rfl) (by simp only [maxLen]; omega) (by omega) ?_
      clear H
      intro A8 c8 wx hc8 hc8' H
      rw [evs_snoc] at H
      replace HS := HS.of H
      refine ⟨HS, ?_⟩
      (try simp only [Act.put, List.setIfInBounds_toArray, List.set_cons_zero, List.set_cons_succ])
      refine takeV (i := 7) (v := ?_) rfl (by kernel_rfl) (by kernel_rfl) (by kernel_rfl) (fun _ _ _ h => h) (by rfl) ?_ HS ?_
      rotate_left
      · (intro W hW; go_simp; try with_reducible rfl)
      (try simp only [Act.put, List.setIfInBounds_toArray, List.set_cons_zero, List.set_cons_succ])
      refine branchH [8] (by kernel_rfl) (by kernel_rfl) (AllStep.cons ?_ AllStep.nil)
      refine stepH_do (i := 8) rfl (by rfl) ?_
      refine wp_store1_st H 23 _ _ rfl rfl (.slice A8 (n + 1) c8) rfl (by rfl) _ rfl s1_Evs (by rfl) (by rfl) ?_
      clear H
      intro wx H
      replace HS := HS.of H
      refine ⟨HS, ?_⟩
      (try simp only [Act.put])
      refine doneH (by kernel_rfl) ?_
      replace H := H.freezeEvAt (A := A8) (c := c8) (n := n + 1) (es := es ++ [⟨e0, e1, e2, e3, e4, e5⟩]) HLN.out
      go_wp2_with (first | (go_at_call 41; refine (check_st ⟨r, be, bf, bd, br, es ++ [⟨e0, e1, e2, e3, e4, e5⟩]⟩ A8 (n + 1) c8 M HLN.out HBN.out hM hc8 H).mono ?_; clear H; rintro ed wx ⟨rfl, H⟩) | (first | ((with_reducible refine here_load ?_); first | refine ldR H rfl _ _ rfl rfl (by kernel_rfl) ?_ | refine ldS H rfl _ _ rfl rfl (by rfl) ?_ | refine ldSG H (by rfl) _ _ rfl rfl (by rfl) ?_ | refine ldRG H (by rfl) _ _ rfl rfl (by kernel_rfl) ?_) | ((with_reducible refine here_store ?_); first | (refine stR H rfl _ _ _ rfl rfl rfl (by rfl) (by rfl) (by kernel_rfl) ?_; clear H; intro wx H) | (refine stS H rfl _ _ _ rfl rfl _ rfl (by rfl) (by rfl) (by rfl) ?_; clear H; intro wx H)) | ((with_reducible refine here_alloc ?_); first | (refine wpList_alloc_st H rfl 37 rfl _ q_zero ?_; clear H; intro gq2 wx H) | (refine wpList_alloc_st H rfl 48 rfl _ ans_zero ?_; clear H; intro ga2 wx H) | (refine wpList_alloc_st H rfl 44 rfl _ ev_zero ?_; clear H; intro ge2 wx H) | (refine wpList_alloc_st H rfl 58 rfl _ ber_zero ?_; clear H; intro gr2 wx H)) | ((with_reducible refine here_box ?_); refine wpList_box_st H rfl _ _ rfl _ rfl ?_; clear H; intro gb2 wx H)))
      have l4 : (loadVar 58 ⟨gr, 0, none⟩).run Try.prog wx = .ok (.agg #[.int .i64 r, .int .i64 be, .int .i64 bf, .int .i64 bd, .int .i64 br, .slice A8 (n + 1) c8]) wx := H.loadRow 58 gr row_Berth (P := Try.prog) (by kernel_rfl)
      exact bodyPost_ret (v := .tuple #[.agg #[.int .i64 r, .int .i64 be, .int .i64 bf, .int .i64 bd, .int .i64 br, .slice A8 (n + 1) c8], .int .i64 0]) (by simp [results, Try.results71, asAddr, l4]) rfl (HF.out _ _ _ hc8 (H.subm _))
    · refine stepH_do (i := 5) rfl (by rfl) ?_
      refine wp_buildSlice1_st H 23 _ rfl 44 Try.underlying23 _ rfl _ ev_info2 (by rfl) (by rfl) ?_
      clear H
      intro gs wx H
      replace HS := HS.of H
      refine ⟨HS, ?_⟩
      (try simp only [Act.put, List.setIfInBounds_toArray, List.set_cons_zero, List.set_cons_succ])
      refine branchH [2] (by kernel_rfl) (by kernel_rfl) (AllStep.cons ?_ AllStep.nil)
      refine stepH_do (i := 2) rfl (by rfl) ?_
      refine wp_append_st (v := .slice none 0 0) H _ _ 23 rfl rfl rfl Try.underlying23 _ _ ev_info (by rfl) (by omega) (H.evReads (es := es) HL.out) (qevCells_one _) (by simp only [maxLen]; omega) (by omega) ?_
      clear H
      intro A7 c7 wx hc7 hc7' H
      simp only [Nat.zero_add, List.nil_append] at H hc7 ⊢
      replace HS := HS.of H
      refine ⟨HS, ?_⟩
      (try simp only [Act.put, List.setIfInBounds_toArray, List.set_cons_zero, List.set_cons_succ])
      refine branchH [6] (by kernel_rfl) (by kernel_rfl) (AllStep.cons ?_ AllStep.nil)
      refine stepH_do (i := 6) rfl (by rfl) ?_
      refine wp_appendB_st (v := .slice A7 n c7) H _ _ 23 rfl rfl rfl Try.underlying23 _ _ ev_info (by rfl) (by rfl) (by rfl) (by kernel_rfl) (by simp only [maxLen]; omega) (by omega) ?_
      clear H
      intro A8 c8 wx hc8 hc8' H
      rw [evs_snoc] at H
      replace HS := HS.of H
      refine ⟨HS, ?_⟩
      (try simp only [Act.put, List.setIfInBounds_toArray, List.set_cons_zero, List.set_cons_succ])
      refine takeV (i := 7) (v := ?_) rfl (by kernel_rfl) (by kernel_rfl) (by kernel_rfl) (fun _ _ _ h => h) (by rfl) ?_ HS ?_
      rotate_left
      · (intro W hW; go_simp; try with_reducible rfl)
      (try simp only [Act.put, List.setIfInBounds_toArray, List.set_cons_zero, List.set_cons_succ])
      refine branchH [8] (by kernel_rfl) (by kernel_rfl) (AllStep.cons ?_ AllStep.nil)
      refine stepH_do (i := 8) rfl (by rfl) ?_
      refine wp_store1_st H 23 _ _ rfl rfl (.slice A8 (n + 1) c8) rfl (by rfl) _ rfl s1_Evs (by rfl) (by rfl) ?_
      clear H
      intro wx H
      replace HS := HS.of H
      refine ⟨HS, ?_⟩
      (try simp only [Act.put])
      refine doneH (by kernel_rfl) ?_
      replace H := H.freezeEvAt (A := A8) (c := c8) (n := n + 1) (es := es ++ [⟨e0, e1, e2, e3, e4, e5⟩]) HLN.out
      go_wp2_with (first | (go_at_call 41; refine (check_st ⟨r, be, bf, bd, br, es ++ [⟨e0, e1, e2, e3, e4, e5⟩]⟩ A8 (n + 1) c8 M HLN.out HBN.out hM hc8 H).mono ?_; clear H; rintro ed wx ⟨rfl, H⟩) | (first | ((with_reducible refine here_load ?_); first | refine ldR H rfl _ _ rfl rfl (by kernel_rfl) ?_ | refine ldS H rfl _ _ rfl rfl (by rfl) ?_ | refine ldSG H (by rfl) _ _ rfl rfl (by rfl) ?_ | refine ldRG H (by rfl) _ _ rfl rfl (by kernel_rfl) ?_) | ((with_reducible refine here_store ?_); first | (refine stR H rfl _ _ _ rfl rfl rfl (by rfl) (by rfl) (by kernel_rfl) ?_; clear H; intro wx H) | (refine stS H rfl _ _ _ rfl rfl _ rfl (by rfl) (by rfl) (by rfl) ?_; clear H; intro wx H)) | ((with_reducible refine here_alloc ?_); first | (refine wpList_alloc_st H rfl 37 rfl _ q_zero ?_; clear H; intro gq2 wx H) | (refine wpList_alloc_st H rfl 48 rfl _ ans_zero ?_; clear H; intro ga2 wx H) | (refine wpList_alloc_st H rfl 44 rfl _ ev_zero ?_; clear H; intro ge2 wx H) | (refine wpList_alloc_st H rfl 58 rfl _ ber_zero ?_; clear H; intro gr2 wx H)) | ((with_reducible refine here_box ?_); refine wpList_box_st H rfl _ _ rfl _ rfl ?_; clear H; intro gb2 wx H)))
      have l4 : (loadVar 58 ⟨gr, 0, none⟩).run Try.prog wx = .ok (.agg #[.int .i64 r, .int .i64 be, .int .i64 bf, .int .i64 bd, .int .i64 br, .slice A8 (n + 1) c8]) wx := H.loadRow 58 gr row_Berth (P := Try.prog) (by kernel_rfl)
      exact bodyPost_ret (v := .tuple #[.agg #[.int .i64 r, .int .i64 be, .int .i64 bf, .int .i64 bd, .int .i64 br, .slice A8 (n + 1) c8], .int .i64 0]) (by simp [results, Try.results71, asAddr, l4]) rfl (HF.out _ _ _ hc8 (H.subm _))
  · refine stepH_do (i := 5) rfl (by rfl) ?_
    refine wp_buildSlice1_st H 23 _ rfl 44 Try.underlying23 _ rfl _ ev_info2 (by rfl) (by rfl) ?_
    clear H
    intro gs wx H
    replace HS := HS.of H
    refine ⟨HS, ?_⟩
    (try simp only [Act.put, List.setIfInBounds_toArray, List.set_cons_zero, List.set_cons_succ])
    refine branchH [1] (by kernel_rfl) (by kernel_rfl) (AllStep.cons ?_ AllStep.nil)
    refine stepH_do (i := 1) rfl (by rfl) ?_
    refine wp_load1_st H 23 _ rfl rfl sc_Evs (by rfl) ?_
    replace HS := HS.of H
    refine ⟨HS, ?_⟩
    (try simp only [Act.put, List.setIfInBounds_toArray, List.set_cons_zero, List.set_cons_succ])
    refine branchH [2] (by kernel_rfl) (by kernel_rfl) (AllStep.cons ?_ AllStep.nil)
    refine stepH_do (i := 2) rfl (by rfl) ?_
    refine wp_append_st (v := .slice none 0 0) H _ _ 23 rfl rfl rfl Try.underlying23 _ _ ev_info (by rfl) (by omega) (H.evReads (es := es) HL.out) (qevCells_one _) (by simp only [maxLen]; omega) (by omega) ?_
    clear H
    intro A7 c7 wx hc7 hc7' H
    simp only [Nat.zero_add, List.nil_append] at H hc7 ⊢
    replace HS := HS.of H
    refine ⟨HS, ?_⟩
    (try simp only [Act.put, List.setIfInBounds_toArray, List.set_cons_zero, List.set_cons_succ])
    refine branchH [6] (by kernel_rfl) (by kernel_rfl) (AllStep.cons ?_ AllStep.nil)
    refine stepH_do (i := 6) rfl (by rfl) ?_
    refine wp_appendB_st (v := .slice A7 n c7) H _ _ 23 rfl rfl rfl Try.underlying23 _ _ ev_info (by rfl) (by rfl) (by rfl) (by kernel_rfl) (by simp only [maxLen]; omega) (by omega) ?_
    clear H
    intro A8 c8 wx hc8 hc8' H
    rw [evs_snoc] at H
    replace HS := HS.of H
    refine ⟨HS, ?_⟩
    (try simp only [Act.put, List.setIfInBounds_toArray, List.set_cons_zero, List.set_cons_succ])
    refine takeV (i := 7) (v := ?_) rfl (by kernel_rfl) (by kernel_rfl) (by kernel_rfl) (fun _ _ _ h => h) (by rfl) ?_ HS ?_
    rotate_left
    · (intro W hW; go_simp; try with_reducible rfl)
    (try simp only [Act.put, List.setIfInBounds_toArray, List.set_cons_zero, List.set_cons_succ])
    refine branchH [8] (by kernel_rfl) (by kernel_rfl) (AllStep.cons ?_ AllStep.nil)
    refine stepH_do (i := 8) rfl (by rfl) ?_
    refine wp_store1_st H 23 _ _ rfl rfl (.slice A8 (n + 1) c8) rfl (by rfl) _ rfl s1_Evs (by rfl) (by rfl) ?_
    clear H
    intro wx H
    replace HS := HS.of H
    refine ⟨HS, ?_⟩
    (try simp only [Act.put])
    refine doneH (by kernel_rfl) ?_
    replace H := H.freezeEvAt (A := A8) (c := c8) (n := n + 1) (es := es ++ [⟨e0, e1, e2, e3, e4, e5⟩]) HLN.out
    go_wp2_with (first | (go_at_call 41; refine (check_st ⟨r, be, bf, bd, br, es ++ [⟨e0, e1, e2, e3, e4, e5⟩]⟩ A8 (n + 1) c8 M HLN.out HBN.out hM hc8 H).mono ?_; clear H; rintro ed wx ⟨rfl, H⟩) | (first | ((with_reducible refine here_load ?_); first | refine ldR H rfl _ _ rfl rfl (by kernel_rfl) ?_ | refine ldS H rfl _ _ rfl rfl (by rfl) ?_ | refine ldSG H (by rfl) _ _ rfl rfl (by rfl) ?_ | refine ldRG H (by rfl) _ _ rfl rfl (by kernel_rfl) ?_) | ((with_reducible refine here_store ?_); first | (refine stR H rfl _ _ _ rfl rfl rfl (by rfl) (by rfl) (by kernel_rfl) ?_; clear H; intro wx H) | (refine stS H rfl _ _ _ rfl rfl _ rfl (by rfl) (by rfl) (by rfl) ?_; clear H; intro wx H)) | ((with_reducible refine here_alloc ?_); first | (refine wpList_alloc_st H rfl 37 rfl _ q_zero ?_; clear H; intro gq2 wx H) | (refine wpList_alloc_st H rfl 48 rfl _ ans_zero ?_; clear H; intro ga2 wx H) | (refine wpList_alloc_st H rfl 44 rfl _ ev_zero ?_; clear H; intro ge2 wx H) | (refine wpList_alloc_st H rfl 58 rfl _ ber_zero ?_; clear H; intro gr2 wx H)) | ((with_reducible refine here_box ?_); refine wpList_box_st H rfl _ _ rfl _ rfl ?_; clear H; intro gb2 wx H)))
    have l4 : (loadVar 58 ⟨gr, 0, none⟩).run Try.prog wx = .ok (.agg #[.int .i64 r, .int .i64 be, .int .i64 bf, .int .i64 bd, .int .i64 br, .slice A8 (n + 1) c8]) wx := H.loadRow 58 gr row_Berth (P := Try.prog) (by kernel_rfl)
    exact bodyPost_ret (v := .tuple #[.agg #[.int .i64 r, .int .i64 be, .int .i64 bf, .int .i64 bd, .int .i64 br, .slice A8 (n + 1) c8], .int .i64 0]) (by simp [results, Try.results71, asAddr, l4]) rfl (HF.out _ _ _ hc8 (H.subm _))

end Go.Proofs.Ytjmncbfmjeeneaa

namespace Go.Proofs.Ytjmncbfmjeeneaa
open Go.RowKit

set_option linter.unusedVariables false
set_option maxRecDepth 100000 in
set_option maxHeartbeats 8000000 in
theorem seal_st {w0 w : World} {I : List It} (r be bf bd br : Int) (es : List Ev) (A : Option Addr) (n c m : Nat) (k qu ep pe e0 e1 e2 e3 e4 e5 : Int) (hl : es.length = n) (hb : (⟨r, be, bf, bd, br, es⟩ : BM).Ok m) (hm : m ≤ 150) (hc : n ≤ c) (H : St w0 w I) [h : Has I (evIt A es)] :
    Calls Try.prog 72 #[.agg (bArr ⟨r, be, bf, bd, br, es⟩ A n c), .agg #[.int .i64 k, .int .i64 qu, .int .i64 ep, .int .i64 pe, .int .i64 e0, .int .i64 e1, .int .i64 e2, .int .i64 e3, .int .i64 e4, .int .i64 e5]] w (BPost w0 I (⟨3, be, bf, pe, br, es⟩, 0)) := by
  have HI := Lib.hid h
  have HB := Lib.hid hb
  have HL := Lib.hid hl
  clear h hb hl
  unfold bArr
  dsimp only
  have HF := Lib.hid (fun W A' c' (h1 : n ≤ c') (h2 : St w0 W (evIt A' (es) :: I)) => (BPost.mk (r := (⟨3, be, bf, pe, br, es⟩, 0)) HL.out h1 h2 : BPost w0 I (⟨3, be, bf, pe, br, es⟩, 0) (.returned (.tuple #[.agg #[.int .i64 3, .int .i64 be, .int .i64 bf, .int .i64 pe, .int .i64 br, .slice A' (n) c'], .int .i64 0])) W))
  generalize BPost w0 I (⟨3, be, bf, pe, br, es⟩, 0) = POST at *
  go_enter Try.func72, Try.ntmps72
  go_upto_region 1 with (first | ((with_reducible refine here_boxAt 2 ?_); refine wpList_box_st H rfl _ _ rfl _ rfl ?_; clear H; intro gb wx H) | ((with_reducible refine here_boxAt 3 ?_); refine wpList_box_st H rfl _ _ rfl _ rfl ?_; clear H; intro gx wx H) | (first | ((with_reducible refine here_load ?_); first | refine ldR H rfl _ _ rfl rfl (by kernel_rfl) ?_ | refine ldS H rfl _ _ rfl rfl (by rfl) ?_ | refine ldSG H (by rfl) _ _ rfl rfl (by rfl) ?_ | refine ldRG H (by rfl) _ _ rfl rfl (by kernel_rfl) ?_) | ((with_reducible refine here_store ?_); first | (refine stR H rfl _ _ _ rfl rfl rfl (by rfl) (by rfl) (by kernel_rfl) ?_; clear H; intro wx H) | (refine stS H rfl _ _ _ rfl rfl _ rfl (by rfl) (by rfl) (by rfl) ?_; clear H; intro wx H)) | ((with_reducible refine here_alloc ?_); first | (refine wpList_alloc_st H rfl 37 rfl _ q_zero ?_; clear H; intro gq wx H) | (refine wpList_alloc_st H rfl 48 rfl _ ans_zero ?_; clear H; intro ga wx H) | (refine wpList_alloc_st H rfl 44 rfl _ ev_zero ?_; clear H; intro ge wx H) | (refine wpList_alloc_st H rfl 58 rfl _ ber_zero ?_; clear H; intro gr wx H)) | ((with_reducible refine here_box ?_); refine wpList_box_st H rfl _ _ rfl _ rfl ?_; clear H; intro gb wx H)))
  (try simp only [Act.put])
  have h := HI.out
  refine startS (H.subm (.bl gx 67 #[.int .i64 k, .int .i64 qu, .int .i64 ep, .int .i64 pe, .int .i64 e0, .int .i64 e1, .int .i64 e2, .int .i64 e3, .int .i64 e4, .int .i64 e5] :: I)) (by kernel_rfl) (fun HS => ?_)
  replace H := H.drew
  refine takeV (i := 0) (v := ?_) rfl (by kernel_rfl) (by kernel_rfl) (by kernel_rfl) (fun _ _ _ h => h) (by rfl) ?_ HS ?_
  rotate_left
  · (intro W hW; go_simp; try with_reducible rfl)
  (try simp only [Act.put, List.setIfInBounds_toArray, List.set_cons_zero, List.set_cons_succ])
  refine take1_st (i := 1) 3 _ rfl rfl rfl sc_int _ (by rfl) (by kernel_rfl) (by kernel_rfl) (by kernel_rfl) (fun _ _ _ _ h => h) (by rfl) HS ?_
  (try simp only [Act.put, List.setIfInBounds_toArray, List.set_cons_zero, List.set_cons_succ])
  refine takeV (i := 2) (v := ?_) rfl (by kernel_rfl) (by kernel_rfl) (by kernel_rfl) (fun _ _ _ h => h) (by rfl) ?_ HS ?_
  rotate_left
  · (intro W hW; go_simp; try with_reducible rfl)
  (try simp only [Act.put, List.setIfInBounds_toArray, List.set_cons_zero, List.set_cons_succ])
  refine branchH [3] (by kernel_rfl) (by kernel_rfl) (AllStep.cons ?_ AllStep.nil)
  refine stepH_do (i := 3) rfl (by rfl) ?_
  refine wp_store1_st H 3 _ _ rfl rfl (.int .i64 3) rfl (by rfl) _ rfl s1_int (by rfl) (by rfl) ?_
  clear H
  intro wx H
  replace HS := HS.of H
  refine ⟨HS, ?_⟩
  (try simp only [Act.put])
  refine takeV (i := 4) (v := ?_) rfl (by kernel_rfl) (by kernel_rfl) (by kernel_rfl) (fun _ _ _ h => h) (by rfl) ?_ HS ?_
  rotate_left
  · (intro W hW; go_simp; try with_reducible rfl)
  (try simp only [Act.put, List.setIfInBounds_toArray, List.set_cons_zero, List.set_cons_succ])
  refine branchH [5] (by kernel_rfl) (by kernel_rfl) (AllStep.cons ?_ AllStep.nil)
  refine stepH_do (i := 5) rfl (by rfl) ?_
  refine wp_store1_st H 3 _ _ rfl rfl (.int .i64 pe) rfl (by rfl) _ rfl s1_int (by rfl) (by rfl) ?_
  clear H
  intro wx H
  replace HS := HS.of H
  refine ⟨HS, ?_⟩
  (try simp only [Act.put])
  refine doneH (by kernel_rfl) ?_
  go_wp2_with (first | ((with_reducible refine here_load ?_); first | refine ldR H rfl _ _ rfl rfl (by kernel_rfl) ?_ | refine ldS H rfl _ _ rfl rfl (by rfl) ?_ | refine ldSG H (by rfl) _ _ rfl rfl (by rfl) ?_ | refine ldRG H (by rfl) _ _ rfl rfl (by kernel_rfl) ?_) | ((with_reducible refine here_store ?_); first | (refine stR H rfl _ _ _ rfl rfl rfl (by rfl) (by rfl) (by kernel_rfl) ?_; clear H; intro wx H) | (refine stS H rfl _ _ _ rfl rfl _ rfl (by rfl) (by rfl) (by rfl) ?_; clear H; intro wx H)) | ((with_reducible refine here_alloc ?_); first | (refine wpList_alloc_st H rfl 37 rfl _ q_zero ?_; clear H; intro gq2 wx H) | (refine wpList_alloc_st H rfl 48 rfl _ ans_zero ?_; clear H; intro ga2 wx H) | (refine wpList_alloc_st H rfl 44 rfl _ ev_zero ?_; clear H; intro ge2 wx H) | (refine wpList_alloc_st H rfl 58 rfl _ ber_zero ?_; clear H; intro gr2 wx H)) | ((with_reducible refine here_box ?_); refine wpList_box_st H rfl _ _ rfl _ rfl ?_; clear H; intro gb2 wx H))
  have l4 : (loadVar 58 ⟨gr, 0, none⟩).run Try.prog wx = .ok (.agg #[.int .i64 3, .int .i64 be, .int .i64 bf, .int .i64 pe, .int .i64 br, .slice A (n) c]) wx := H.loadRow 58 gr row_Berth (P := Try.prog) (by kernel_rfl)
  exact bodyPost_ret (v := .tuple #[.agg #[.int .i64 3, .int .i64 be, .int .i64 bf, .int .i64 pe, .int .i64 br, .slice A (n) c], .int .i64 0]) (by simp [results, Try.results72, asAddr, l4]) rfl (HF.out _ _ _ hc (by have H9 := H.takeEv (A := A) (es := es) n (by rw [HL.out]; exact Nat.le_refl _); rw [List.take_of_length_le (Nat.le_of_eq HL.out)] at H9; exact H9.subm _))
set_option maxRecDepth 100000 in
set_option maxHeartbeats 8000000 in
theorem lasti_st {w0 w : World} {I : List It} (be bf bd br : Int) (es : List Ev) (A : Option Addr) (n c m M : Nat) (k qu pe e0 e1 e2 e3 e4 e5 : Int) (hl : es.length = n) (hb : (⟨4, be, bf, bd, br, es⟩ : BM).Ok m) (hm : m ≤ 150) (hc : n ≤ c) (hbn : (⟨1, be, 0, 0, 0, es ++ [⟨4, 0, 0, 0, 0, 0⟩]⟩ : BM).Ok M) (hM : M ≤ 150) (H : St w0 w I) [h : Has I (evIt A es)] :
    Calls Try.prog 74 #[.agg (bArr ⟨4, be, bf, bd, br, es⟩ A n c), .agg #[.int .i64 k, .int .i64 qu, .int .i64 be, .int .i64 pe, .int .i64 e0, .int .i64 e1, .int .i64 e2, .int .i64 e3, .int .i64 e4, .int .i64 e5]] w (BPost w0 I (⟨1, be, 0, 0, 0, es ++ [⟨4, 0, 0, 0, 0, 0⟩]⟩, 0)) := by
  have hn : n ≤ 150 := by have := hb.len; have h8 : n ≤ m := hl ▸ this; omega
  have HI := Lib.hid h
  have HB := Lib.hid hb
  have HL := Lib.hid hl
  clear h hb hl
  unfold bArr
  dsimp only
  have HLN := Lib.hid (show (es ++ [(⟨4, 0, 0, 0, 0, 0⟩ : Ev)]).length = n + 1 from by rw [List.length_append, HL.out]; rfl)
  have CI := Lib.hid (fun W J (H : St w0 W J) (h : Has J (evIt A es)) => (show Calls Try.prog 48 #[.agg #[.int .i64 4, .int .i64 be, .int .i64 bf, .int .i64 bd, .int .i64 br, .slice A n c], .int .i64 be, .int .i64 n, .slice none 0 0, .bool true] W (fun ed w' => ∃ A' c', ed = .returned (.tuple #[.agg #[.int .i64 1, .int .i64 be, .int .i64 0, .int .i64 0, .int .i64 0, .slice A' (n + 1) c'], .int .i64 0]) ∧ n + 1 ≤ c' ∧ St w0 w' (evIt A' (es ++ [⟨4, 0, 0, 0, 0, 0⟩]) :: J)) from by
    have H9 := H.noEv
    have h9 := import_last (h := Has.there) (h2 := Has.here) (w0 := w0) (w := W) (I := evIt none [] :: J) be bf bd br es [] A none n c 0 0 m n 0 M HL.out rfl HB.out hm (by omega) hc (Nat.le_refl _) (Nat.le_refl _) (by omega) (by simp) (by omega) (by simpa using hbn) hM H9
    rw [show es ++ ([] : List Ev).drop 0 ++ [(⟨4, 0, 0, 0, 0, 0⟩ : Ev)] = es ++ [⟨4, 0, 0, 0, 0, 0⟩] from by simp] at h9
    refine h9.mono fun ed w' h8 => ?_
    obtain ⟨A', c', e1, e2, e3⟩ := h8
    unfold bArr at e1
    dsimp only at e1 e2 e3
    rw [HLN.out] at e1 e2
    exact ⟨A', c', e1, e2, e3.subm _⟩))
  clear hbn
  have HF := Lib.hid (fun W A' c' (h1 : n + 1 ≤ c') (h2 : St w0 W (evIt A' (es ++ [⟨4, 0, 0, 0, 0, 0⟩]) :: I)) => (BPost.mk (r := (⟨1, be, 0, 0, 0, es ++ [⟨4, 0, 0, 0, 0, 0⟩]⟩, 0)) HLN.out h1 h2 : BPost w0 I (⟨1, be, 0, 0, 0, es ++ [⟨4, 0, 0, 0, 0, 0⟩]⟩, 0) (.returned (.tuple #[.agg #[.int .i64 1, .int .i64 be, .int .i64 0, .int .i64 0, .int .i64 0, .slice A' (n + 1) c'], .int .i64 0])) W))
  generalize BPost w0 I (⟨1, be, 0, 0, 0, es ++ [⟨4, 0, 0, 0, 0, 0⟩]⟩, 0) = POST at *
  go_enter Try.func74, Try.ntmps74
  go_upto_region 1 with (first | ((with_reducible refine here_boxAt 2 ?_); refine wpList_box_st H rfl _ _ rfl _ rfl ?_; clear H; intro gb wx H) | ((with_reducible refine here_boxAt 3 ?_); refine wpList_box_st H rfl _ _ rfl _ rfl ?_; clear H; intro gx wx H) | (first | ((with_reducible refine here_load ?_); first | refine ldR H rfl _ _ rfl rfl (by kernel_rfl) ?_ | refine ldS H rfl _ _ rfl rfl (by rfl) ?_ | refine ldSG H (by rfl) _ _ rfl rfl (by rfl) ?_ | refine ldRG H (by rfl) _ _ rfl rfl (by kernel_rfl) ?_) | ((with_reducible refine here_store ?_); first | (refine stR H rfl _ _ _ rfl rfl rfl (by rfl) (by rfl) (by kernel_rfl) ?_; clear H; intro wx H) | (refine stS H rfl _ _ _ rfl rfl _ rfl (by rfl) (by rfl) (by rfl) ?_; clear H; intro wx H)) | ((with_reducible refine here_alloc ?_); first | (refine wpList_alloc_st H rfl 37 rfl _ q_zero ?_; clear H; intro gq wx H) | (refine wpList_alloc_st H rfl 48 rfl _ ans_zero ?_; clear H; intro ga wx H) | (refine wpList_alloc_st H rfl 44 rfl _ ev_zero ?_; clear H; intro ge wx H) | (refine wpList_alloc_st H rfl 58 rfl _ ber_zero ?_; clear H; intro gr wx H)) | ((with_reducible refine here_box ?_); refine wpList_box_st H rfl _ _ rfl _ rfl ?_; clear H; intro gb wx H)))
  (try simp only [Act.put])
  have h := HI.out
  go_wp2_with (first | (go_at_call 48; refine (CI.out _ _ H inferInstance).mono ?_; clear H; rintro ed wy ⟨A9, c9, rfl, hc9, H⟩) | (first | ((with_reducible refine here_load ?_); first | refine ldR H rfl _ _ rfl rfl (by kernel_rfl) ?_ | refine ldS H rfl _ _ rfl rfl (by rfl) ?_ | refine ldSG H (by rfl) _ _ rfl rfl (by rfl) ?_ | refine ldRG H (by rfl) _ _ rfl rfl (by kernel_rfl) ?_) | ((with_reducible refine here_store ?_); first | (refine stR H rfl _ _ _ rfl rfl rfl (by rfl) (by rfl) (by kernel_rfl) ?_; clear H; intro wx H) | (refine stS H rfl _ _ _ rfl rfl _ rfl (by rfl) (by rfl) (by rfl) ?_; clear H; intro wx H)) | ((with_reducible refine here_alloc ?_); first | (refine wpList_alloc_st H rfl 37 rfl _ q_zero ?_; clear H; intro gq2 wx H) | (refine wpList_alloc_st H rfl 48 rfl _ ans_zero ?_; clear H; intro ga2 wx H) | (refine wpList_alloc_st H rfl 44 rfl _ ev_zero ?_; clear H; intro ge2 wx H) | (refine wpList_alloc_st H rfl 58 rfl _ ber_zero ?_; clear H; intro gr2 wx H)) | ((with_reducible refine here_box ?_); refine wpList_box_st H rfl _ _ rfl _ rfl ?_; clear H; intro gb2 wx H)))
  have l4 : (loadVar 58 ⟨gr, 0, none⟩).run Try.prog wx = .ok (.agg #[.int .i64 1, .int .i64 be, .int .i64 0, .int .i64 0, .int .i64 0, .slice A9 (n + 1) c9]) wx := H.loadRow 58 gr row_Berth (P := Try.prog) (by kernel_rfl)
  exact bodyPost_ret (v := .tuple #[.agg #[.int .i64 1, .int .i64 be, .int .i64 0, .int .i64 0, .int .i64 0, .slice A9 (n + 1) c9], .int .i64 0]) (by simp [results, Try.results74, asAddr, l4]) rfl (HF.out _ _ _ hc9 (H.subm _))

end Go.Proofs.Ytjmncbfmjeeneaa

namespace Go.Proofs.Ytjmncbfmjeeneaa
open Go.RowKit

set_option linter.unusedVariables false
set_option maxRecDepth 100000 in
set_option maxHeartbeats 8000000 in
theorem only_no {w0 w : World} {I : List It} (r be bf bd br : Int) (A : Option Addr) (n c : Nat) (k qu ep pe e0 e1 e2 e3 e4 e5 : Int) (role : Int) (g2 g3 : Nat) (hx : r ≠ role ∨ be ≠ ep) (H : St w0 w I) [h2 : HasB I g2 3 #[.int .i64 role]] :
    Calls Try.prog 89 #[.agg #[.int .i64 r, .int .i64 be, .int .i64 bf, .int .i64 bd, .int .i64 br, .slice A n c], .agg #[.int .i64 k, .int .i64 qu, .int .i64 ep, .int .i64 pe, .int .i64 e0, .int .i64 e1, .int .i64 e2, .int .i64 e3, .int .i64 e4, .int .i64 e5], .pointer (some ⟨g2, 0, none⟩), .pointer (some ⟨g3, 0, none⟩)] w (BPost w0 I (⟨0, 0, 0, 0, 0, []⟩, 3)) := by
  have HF := Lib.hid (fun W (h2 : St w0 W I) => (BPost.mk (r := (⟨0, 0, 0, 0, 0, []⟩, 3)) (n := 0) (c := 0) (A := none) rfl (Nat.le_refl _) (h2.old (s := 6) (n := 0) (A := none) (xs := []) Reads.none_) : BPost w0 I (⟨0, 0, 0, 0, 0, []⟩, 3) (.returned (.tuple #[.agg #[.int .i64 0, .int .i64 0, .int .i64 0, .int .i64 0, .int .i64 0, .slice none 0 0], .int .i64 3])) W))
  generalize BPost w0 I (⟨0, 0, 0, 0, 0, []⟩, 3) = POST at *
  by_cases hr : r = role
  · subst hr
    have he : be ≠ ep := by rcases hx with h | h; exact absurd rfl h; exact h
    have g1a : ((be : Int) == ep) = false := beq_eq_false_iff_ne.2 he
    have g1b : decide ((be : Int) = ep) = false := decide_eq_false he
    have g1c : ((be : Int) != ep) = true := by simpa using he
    clear hx he
    go_enter Try.func89, Try.ntmps89
    go_upto_region 1 with (first | ((with_reducible refine here_boxAt 4 ?_); refine wpList_box_st H rfl _ _ rfl _ rfl ?_; clear H; intro gb wx H) | ((with_reducible refine here_boxAt 5 ?_); refine wpList_box_st H rfl _ _ rfl _ rfl ?_; clear H; intro gx wx H) | (first | ((with_reducible refine here_load ?_); first | refine ldR H rfl _ _ rfl rfl (by kernel_rfl) ?_ | refine ldS H rfl _ _ rfl rfl (by rfl) ?_ | refine ldSG H (by rfl) _ _ rfl rfl (by rfl) ?_ | refine ldRG H (by rfl) _ _ rfl rfl (by kernel_rfl) ?_) | ((with_reducible refine here_store ?_); first | (refine stR H rfl _ _ _ rfl rfl rfl (by rfl) (by rfl) (by kernel_rfl) ?_; clear H; intro wx H) | (refine stS H rfl _ _ _ rfl rfl _ rfl (by rfl) (by rfl) (by rfl) ?_; clear H; intro wx H)) | ((with_reducible refine here_alloc ?_); first | (refine wpList_alloc_st H rfl 37 rfl _ q_zero ?_; clear H; intro gq wx H) | (refine wpList_alloc_st H rfl 48 rfl _ ans_zero ?_; clear H; intro ga wx H) | (refine wpList_alloc_st H rfl 44 rfl _ ev_zero ?_; clear H; intro ge wx H) | (refine wpList_alloc_st H rfl 58 rfl _ ber_zero ?_; clear H; intro gr wx H)) | ((with_reducible refine here_box ?_); refine wpList_box_st H rfl _ _ rfl _ rfl ?_; clear H; intro gb wx H)))
    go_wp2_with (first | ((with_reducible refine here_load ?_); first | refine ldR H rfl _ _ rfl rfl (by kernel_rfl) ?_ | refine ldS H rfl _ _ rfl rfl (by rfl) ?_ | refine ldSG H (by rfl) _ _ rfl rfl (by rfl) ?_ | refine ldRG H (by rfl) _ _ rfl rfl (by kernel_rfl) ?_) | ((with_reducible refine here_store ?_); first | (refine stR H rfl _ _ _ rfl rfl rfl (by rfl) (by rfl) (by kernel_rfl) ?_; clear H; intro wx H) | (refine stS H rfl _ _ _ rfl rfl _ rfl (by rfl) (by rfl) (by rfl) ?_; clear H; intro wx H)) | ((with_reducible refine here_alloc ?_); first | (refine wpList_alloc_st H rfl 37 rfl _ q_zero ?_; clear H; intro gq2 wx H) | (refine wpList_alloc_st H rfl 48 rfl _ ans_zero ?_; clear H; intro ga2 wx H) | (refine wpList_alloc_st H rfl 44 rfl _ ev_zero ?_; clear H; intro ge2 wx H) | (refine wpList_alloc_st H rfl 58 rfl _ ber_zero ?_; clear H; intro gr2 wx H)) | ((with_reducible refine here_box ?_); refine wpList_box_st H rfl _ _ rfl _ rfl ?_; clear H; intro gb2 wx H))
    have l4 : (loadVar 58 ⟨gr, 0, none⟩).run Try.prog wx = .ok (.agg #[.int .i64 0, .int .i64 0, .int .i64 0, .int .i64 0, .int .i64 0, .slice none 0 0]) wx := H.loadRow 58 gr row_Berth (P := Try.prog) (by kernel_rfl)
    exact bodyPost_ret (v := .tuple #[.agg #[.int .i64 0, .int .i64 0, .int .i64 0, .int .i64 0, .int .i64 0, .slice none 0 0], .int .i64 3]) (by simp [results, Try.results89, asAddr, l4]) rfl (HF.out _ (H.subm _))
  · have g1a : ((r : Int) == role) = false := beq_eq_false_iff_ne.2 hr
    have g1b : decide ((r : Int) = role) = false := decide_eq_false hr
    have g1c : ((r : Int) != role) = true := by simpa using hr
    clear hx hr
    go_enter Try.func89, Try.ntmps89
    go_upto_region 1 with (first | ((with_reducible refine here_boxAt 4 ?_); refine wpList_box_st H rfl _ _ rfl _ rfl ?_; clear H; intro gb wx H) | ((with_reducible refine here_boxAt 5 ?_); refine wpList_box_st H rfl _ _ rfl _ rfl ?_; clear H; intro gx wx H) | (first | ((with_reducible refine here_load ?_); first | refine ldR H rfl _ _ rfl rfl (by kernel_rfl) ?_ | refine ldS H rfl _ _ rfl rfl (by rfl) ?_ | refine ldSG H (by rfl) _ _ rfl rfl (by rfl) ?_ | refine ldRG H (by rfl) _ _ rfl rfl (by kernel_rfl) ?_) | ((with_reducible refine here_store ?_); first | (refine stR H rfl _ _ _ rfl rfl rfl (by rfl) (by rfl) (by kernel_rfl) ?_; clear H; intro wx H) | (refine stS H rfl _ _ _ rfl rfl _ rfl (by rfl) (by rfl) (by rfl) ?_; clear H; intro wx H)) | ((with_reducible refine here_alloc ?_); first | (refine wpList_alloc_st H rfl 37 rfl _ q_zero ?_; clear H; intro gq wx H) | (refine wpList_alloc_st H rfl 48 rfl _ ans_zero ?_; clear H; intro ga wx H) | (refine wpList_alloc_st H rfl 44 rfl _ ev_zero ?_; clear H; intro ge wx H) | (refine wpList_alloc_st H rfl 58 rfl _ ber_zero ?_; clear H; intro gr wx H)) | ((with_reducible refine here_box ?_); refine wpList_box_st H rfl _ _ rfl _ rfl ?_; clear H; intro gb wx H)))
    go_wp2_with (first | ((with_reducible refine here_load ?_); first | refine ldR H rfl _ _ rfl rfl (by kernel_rfl) ?_ | refine ldS H rfl _ _ rfl rfl (by rfl) ?_ | refine ldSG H (by rfl) _ _ rfl rfl (by rfl) ?_ | refine ldRG H (by rfl) _ _ rfl rfl (by kernel_rfl) ?_) | ((with_reducible refine here_store ?_); first | (refine stR H rfl _ _ _ rfl rfl rfl (by rfl) (by rfl) (by kernel_rfl) ?_; clear H; intro wx H) | (refine stS H rfl _ _ _ rfl rfl _ rfl (by rfl) (by rfl) (by rfl) ?_; clear H; intro wx H)) | ((with_reducible refine here_alloc ?_); first | (refine wpList_alloc_st H rfl 37 rfl _ q_zero ?_; clear H; intro gq2 wx H) | (refine wpList_alloc_st H rfl 48 rfl _ ans_zero ?_; clear H; intro ga2 wx H) | (refine wpList_alloc_st H rfl 44 rfl _ ev_zero ?_; clear H; intro ge2 wx H) | (refine wpList_alloc_st H rfl 58 rfl _ ber_zero ?_; clear H; intro gr2 wx H)) | ((with_reducible refine here_box ?_); refine wpList_box_st H rfl _ _ rfl _ rfl ?_; clear H; intro gb2 wx H))
    have l4 : (loadVar 58 ⟨gr, 0, none⟩).run Try.prog wx = .ok (.agg #[.int .i64 0, .int .i64 0, .int .i64 0, .int .i64 0, .int .i64 0, .slice none 0 0]) wx := H.loadRow 58 gr row_Berth (P := Try.prog) (by kernel_rfl)
    exact bodyPost_ret (v := .tuple #[.agg #[.int .i64 0, .int .i64 0, .int .i64 0, .int .i64 0, .int .i64 0, .slice none 0 0], .int .i64 3]) (by simp [results, Try.results89, asAddr, l4]) rfl (HF.out _ (H.subm _))
set_option maxRecDepth 100000 in
set_option maxHeartbeats 8000000 in
theorem only_add {w0 w : World} {I : List It} (r be bf bd br : Int) (es : List Ev) (A : Option Addr) (n c : Nat) (k qu pe e0 e1 e2 e3 e4 e5 : Int) (g2 g3 : Nat) (R : BM × Int) (CK0 : ∀ W J (H : St w0 W J) (h : Has J (evIt A es)), Calls Try.prog 71 #[.agg #[.int .i64 r, .int .i64 be, .int .i64 bf, .int .i64 bd, .int .i64 br, .slice A n c], .agg #[.int .i64 k, .int .i64 qu, .int .i64 be, .int .i64 pe, .int .i64 e0, .int .i64 e1, .int .i64 e2, .int .i64 e3, .int .i64 e4, .int .i64 e5]] W (BPost w0 J R)) (H : St w0 w I) [h : Has I (evIt A es)] [h2 : HasB I g2 3 #[.int .i64 r]] [h3 : HasB I g3 128 #[.func (.func 71) #[] #[]]] :
    Calls Try.prog 89 #[.agg #[.int .i64 r, .int .i64 be, .int .i64 bf, .int .i64 bd, .int .i64 br, .slice A n c], .agg #[.int .i64 k, .int .i64 qu, .int .i64 be, .int .i64 pe, .int .i64 e0, .int .i64 e1, .int .i64 e2, .int .i64 e3, .int .i64 e4, .int .i64 e5], .pointer (some ⟨g2, 0, none⟩), .pointer (some ⟨g3, 0, none⟩)] w (BPost w0 I R) := by
  have HI := Lib.hid h
  have CK := Lib.hid CK0
  clear CK0 h
  have HFm := Lib.hid (fun W (r : BM × Int) A' c' (h1 : r.1.es.length ≤ c') (h2 : St w0 W (evIt A' r.1.es :: I)) => (BPost.mk rfl h1 h2 : BPost w0 I r (.returned (.tuple #[.agg (bArr r.1 A' r.1.es.length c'), .int .i64 r.2])) W))
  obtain ⟨r1, r2⟩ := R
  have HF := Lib.hid (fun W A' c' h1 h2 => HFm.out W (r1, r2) A' c' h1 h2)
  dsimp only at HF
  clear HFm
  generalize BPost w0 I (r1, r2) = POST at *
  go_enter Try.func89, Try.ntmps89
  go_upto_region 1 with (first | ((with_reducible refine here_boxAt 4 ?_); refine wpList_box_st H rfl _ _ rfl _ rfl ?_; clear H; intro gb wx H) | ((with_reducible refine here_boxAt 5 ?_); refine wpList_box_st H rfl _ _ rfl _ rfl ?_; clear H; intro gx wx H) | (first | ((with_reducible refine here_load ?_); first | refine ldR H rfl _ _ rfl rfl (by kernel_rfl) ?_ | refine ldS H rfl _ _ rfl rfl (by rfl) ?_ | refine ldSG H (by rfl) _ _ rfl rfl (by rfl) ?_ | refine ldRG H (by rfl) _ _ rfl rfl (by kernel_rfl) ?_) | ((with_reducible refine here_store ?_); first | (refine stR H rfl _ _ _ rfl rfl rfl (by rfl) (by rfl) (by kernel_rfl) ?_; clear H; intro wx H) | (refine stS H rfl _ _ _ rfl rfl _ rfl (by rfl) (by rfl) (by rfl) ?_; clear H; intro wx H)) | ((with_reducible refine here_alloc ?_); first | (refine wpList_alloc_st H rfl 37 rfl _ q_zero ?_; clear H; intro gq wx H) | (refine wpList_alloc_st H rfl 48 rfl _ ans_zero ?_; clear H; intro ga wx H) | (refine wpList_alloc_st H rfl 44 rfl _ ev_zero ?_; clear H; intro ge wx H) | (refine wpList_alloc_st H rfl 58 rfl _ ber_zero ?_; clear H; intro gr wx H)) | ((with_reducible refine here_box ?_); refine wpList_box_st H rfl _ _ rfl _ rfl ?_; clear H; intro gb wx H)))
  have h := HI.out
  go_wp2_with (first | (go_at_call 71; refine (CK.out _ _ H inferInstance).mono ?_; clear H; rintro ed wy ⟨A9, c9, rfl, hc9, H⟩) | (first | ((with_reducible refine here_load ?_); first | refine ldR H rfl _ _ rfl rfl (by kernel_rfl) ?_ | refine ldS H rfl _ _ rfl rfl (by rfl) ?_ | refine ldSG H (by rfl) _ _ rfl rfl (by rfl) ?_ | refine ldRG H (by rfl) _ _ rfl rfl (by kernel_rfl) ?_) | ((with_reducible refine here_store ?_); first | (refine stR H rfl _ _ _ rfl rfl rfl (by rfl) (by rfl) (by kernel_rfl) ?_; clear H; intro wx H) | (refine stS H rfl _ _ _ rfl rfl _ rfl (by rfl) (by rfl) (by rfl) ?_; clear H; intro wx H)) | ((with_reducible refine here_alloc ?_); first | (refine wpList_alloc_st H rfl 37 rfl _ q_zero ?_; clear H; intro gq2 wx H) | (refine wpList_alloc_st H rfl 48 rfl _ ans_zero ?_; clear H; intro ga2 wx H) | (refine wpList_alloc_st H rfl 44 rfl _ ev_zero ?_; clear H; intro ge2 wx H) | (refine wpList_alloc_st H rfl 58 rfl _ ber_zero ?_; clear H; intro gr2 wx H)) | ((with_reducible refine here_box ?_); refine wpList_box_st H rfl _ _ rfl _ rfl ?_; clear H; intro gb2 wx H)))
  have l4 : (loadVar 58 ⟨gr, 0, none⟩).run Try.prog wx = .ok (.agg (bArr r1 A9 r1.es.length c9)) wx := H.loadRow 58 gr row_Berth (P := Try.prog) (by kernel_rfl)
  exact bodyPost_ret (v := .tuple #[.agg (bArr r1 A9 r1.es.length c9), .int .i64 r2]) (by simp [results, Try.results89, asAddr, l4]) rfl (HF.out _ _ _ hc9 (H.subm _))
set_option maxRecDepth 100000 in
set_option maxHeartbeats 8000000 in
theorem only_seal {w0 w : World} {I : List It} (r be bf bd br : Int) (es : List Ev) (A : Option Addr) (n c : Nat) (k qu pe e0 e1 e2 e3 e4 e5 : Int) (g2 g3 : Nat) (R : BM × Int) (CK0 : ∀ W J (H : St w0 W J) (h : Has J (evIt A es)), Calls Try.prog 72 #[.agg #[.int .i64 r, .int .i64 be, .int .i64 bf, .int .i64 bd, .int .i64 br, .slice A n c], .agg #[.int .i64 k, .int .i64 qu, .int .i64 be, .int .i64 pe, .int .i64 e0, .int .i64 e1, .int .i64 e2, .int .i64 e3, .int .i64 e4, .int .i64 e5]] W (BPost w0 J R)) (H : St w0 w I) [h : Has I (evIt A es)] [h2 : HasB I g2 3 #[.int .i64 r]] [h3 : HasB I g3 128 #[.func (.func 72) #[] #[]]] :
    Calls Try.prog 89 #[.agg #[.int .i64 r, .int .i64 be, .int .i64 bf, .int .i64 bd, .int .i64 br, .slice A n c], .agg #[.int .i64 k, .int .i64 qu, .int .i64 be, .int .i64 pe, .int .i64 e0, .int .i64 e1, .int .i64 e2, .int .i64 e3, .int .i64 e4, .int .i64 e5], .pointer (some ⟨g2, 0, none⟩), .pointer (some ⟨g3, 0, none⟩)] w (BPost w0 I R) := by
  have HI := Lib.hid h
  have CK := Lib.hid CK0
  clear CK0 h
  have HFm := Lib.hid (fun W (r : BM × Int) A' c' (h1 : r.1.es.length ≤ c') (h2 : St w0 W (evIt A' r.1.es :: I)) => (BPost.mk rfl h1 h2 : BPost w0 I r (.returned (.tuple #[.agg (bArr r.1 A' r.1.es.length c'), .int .i64 r.2])) W))
  obtain ⟨r1, r2⟩ := R
  have HF := Lib.hid (fun W A' c' h1 h2 => HFm.out W (r1, r2) A' c' h1 h2)
  dsimp only at HF
  clear HFm
  generalize BPost w0 I (r1, r2) = POST at *
  go_enter Try.func89, Try.ntmps89
  go_upto_region 1 with (first | ((with_reducible refine here_boxAt 4 ?_); refine wpList_box_st H rfl _ _ rfl _ rfl ?_; clear H; intro gb wx H) | ((with_reducible refine here_boxAt 5 ?_); refine wpList_box_st H rfl _ _ rfl _ rfl ?_; clear H; intro gx wx H) | (first | ((with_reducible refine here_load ?_); first | refine ldR H rfl _ _ rfl rfl (by kernel_rfl) ?_ | refine ldS H rfl _ _ rfl rfl (by rfl) ?_ | refine ldSG H (by rfl) _ _ rfl rfl (by rfl) ?_ | refine ldRG H (by rfl) _ _ rfl rfl (by kernel_rfl) ?_) | ((with_reducible refine here_store ?_); first | (refine stR H rfl _ _ _ rfl rfl rfl (by rfl) (by rfl) (by kernel_rfl) ?_; clear H; intro wx H) | (refine stS H rfl _ _ _ rfl rfl _ rfl (by rfl) (by rfl) (by rfl) ?_; clear H; intro wx H)) | ((with_reducible refine here_alloc ?_); first | (refine wpList_alloc_st H rfl 37 rfl _ q_zero ?_; clear H; intro gq wx H) | (refine wpList_alloc_st H rfl 48 rfl _ ans_zero ?_; clear H; intro ga wx H) | (refine wpList_alloc_st H rfl 44 rfl _ ev_zero ?_; clear H; intro ge wx H) | (refine wpList_alloc_st H rfl 58 rfl _ ber_zero ?_; clear H; intro gr wx H)) | ((with_reducible refine here_box ?_); refine wpList_box_st H rfl _ _ rfl _ rfl ?_; clear H; intro gb wx H)))
  have h := HI.out
  go_wp2_with (first | (go_at_call 72; refine (CK.out _ _ H inferInstance).mono ?_; clear H; rintro ed wy ⟨A9, c9, rfl, hc9, H⟩) | (first | ((with_reducible refine here_load ?_); first | refine ldR H rfl _ _ rfl rfl (by kernel_rfl) ?_ | refine ldS H rfl _ _ rfl rfl (by rfl) ?_ | refine ldSG H (by rfl) _ _ rfl rfl (by rfl) ?_ | refine ldRG H (by rfl) _ _ rfl rfl (by kernel_rfl) ?_) | ((with_reducible refine here_store ?_); first | (refine stR H rfl _ _ _ rfl rfl rfl (by rfl) (by rfl) (by kernel_rfl) ?_; clear H; intro wx H) | (refine stS H rfl _ _ _ rfl rfl _ rfl (by rfl) (by rfl) (by rfl) ?_; clear H; intro wx H)) | ((with_reducible refine here_alloc ?_); first | (refine wpList_alloc_st H rfl 37 rfl _ q_zero ?_; clear H; intro gq2 wx H) | (refine wpList_alloc_st H rfl 48 rfl _ ans_zero ?_; clear H; intro ga2 wx H) | (refine wpList_alloc_st H rfl 44 rfl _ ev_zero ?_; clear H; intro ge2 wx H) | (refine wpList_alloc_st H rfl 58 rfl _ ber_zero ?_; clear H; intro gr2 wx H)) | ((with_reducible refine here_box ?_); refine wpList_box_st H rfl _ _ rfl _ rfl ?_; clear H; intro gb2 wx H)))
  have l4 : (loadVar 58 ⟨gr, 0, none⟩).run Try.prog wx = .ok (.agg (bArr r1 A9 r1.es.length c9)) wx := H.loadRow 58 gr row_Berth (P := Try.prog) (by kernel_rfl)
  exact bodyPost_ret (v := .tuple #[.agg (bArr r1 A9 r1.es.length c9), .int .i64 r2]) (by simp [results, Try.results89, asAddr, l4]) rfl (HF.out _ _ _ hc9 (H.subm _))
set_option maxRecDepth 100000 in
set_option maxHeartbeats 8000000 in
theorem only_lasti {w0 w : World} {I : List It} (r be bf bd br : Int) (es : List Ev) (A : Option Addr) (n c : Nat) (k qu pe e0 e1 e2 e3 e4 e5 : Int) (g2 g3 : Nat) (R : BM × Int) (CK0 : ∀ W J (H : St w0 W J) (h : Has J (evIt A es)), Calls Try.prog 74 #[.agg #[.int .i64 r, .int .i64 be, .int .i64 bf, .int .i64 bd, .int .i64 br, .slice A n c], .agg #[.int .i64 k, .int .i64 qu, .int .i64 be, .int .i64 pe, .int .i64 e0, .int .i64 e1, .int .i64 e2, .int .i64 e3, .int .i64 e4, .int .i64 e5]] W (BPost w0 J R)) (H : St w0 w I) [h : Has I (evIt A es)] [h2 : HasB I g2 3 #[.int .i64 r]] [h3 : HasB I g3 128 #[.func (.func 74) #[] #[]]] :
    Calls Try.prog 89 #[.agg #[.int .i64 r, .int .i64 be, .int .i64 bf, .int .i64 bd, .int .i64 br, .slice A n c], .agg #[.int .i64 k, .int .i64 qu, .int .i64 be, .int .i64 pe, .int .i64 e0, .int .i64 e1, .int .i64 e2, .int .i64 e3, .int .i64 e4, .int .i64 e5], .pointer (some ⟨g2, 0, none⟩), .pointer (some ⟨g3, 0, none⟩)] w (BPost w0 I R) := by
  have HI := Lib.hid h
  have CK := Lib.hid CK0
  clear CK0 h
  have HFm := Lib.hid (fun W (r : BM × Int) A' c' (h1 : r.1.es.length ≤ c') (h2 : St w0 W (evIt A' r.1.es :: I)) => (BPost.mk rfl h1 h2 : BPost w0 I r (.returned (.tuple #[.agg (bArr r.1 A' r.1.es.length c'), .int .i64 r.2])) W))
  obtain ⟨r1, r2⟩ := R
  have HF := Lib.hid (fun W A' c' h1 h2 => HFm.out W (r1, r2) A' c' h1 h2)
  dsimp only at HF
  clear HFm
  generalize BPost w0 I (r1, r2) = POST at *
  go_enter Try.func89, Try.ntmps89
  go_upto_region 1 with (first | ((with_reducible refine here_boxAt 4 ?_); refine wpList_box_st H rfl _ _ rfl _ rfl ?_; clear H; intro gb wx H) | ((with_reducible refine here_boxAt 5 ?_); refine wpList_box_st H rfl _ _ rfl _ rfl ?_; clear H; intro gx wx H) | (first | ((with_reducible refine here_load ?_); first | refine ldR H rfl _ _ rfl rfl (by kernel_rfl) ?_ | refine ldS H rfl _ _ rfl rfl (by rfl) ?_ | refine ldSG H (by rfl) _ _ rfl rfl (by rfl) ?_ | refine ldRG H (by rfl) _ _ rfl rfl (by kernel_rfl) ?_) | ((with_reducible refine here_store ?_); first | (refine stR H rfl _ _ _ rfl rfl rfl (by rfl) (by rfl) (by kernel_rfl) ?_; clear H; intro wx H) | (refine stS H rfl _ _ _ rfl rfl _ rfl (by rfl) (by rfl) (by rfl) ?_; clear H; intro wx H)) | ((with_reducible refine here_alloc ?_); first | (refine wpList_alloc_st H rfl 37 rfl _ q_zero ?_; clear H; intro gq wx H) | (refine wpList_alloc_st H rfl 48 rfl _ ans_zero ?_; clear H; intro ga wx H) | (refine wpList_alloc_st H rfl 44 rfl _ ev_zero ?_; clear H; intro ge wx H) | (refine wpList_alloc_st H rfl 58 rfl _ ber_zero ?_; clear H; intro gr wx H)) | ((with_reducible refine here_box ?_); refine wpList_box_st H rfl _ _ rfl _ rfl ?_; clear H; intro gb wx H)))
  have h := HI.out
  go_wp2_with (first | (go_at_call 74; refine (CK.out _ _ H inferInstance).mono ?_; clear H; rintro ed wy ⟨A9, c9, rfl, hc9, H⟩) | (first | ((with_reducible refine here_load ?_); first | refine ldR H rfl _ _ rfl rfl (by kernel_rfl) ?_ | refine ldS H rfl _ _ rfl rfl (by rfl) ?_ | refine ldSG H (by rfl) _ _ rfl rfl (by rfl) ?_ | refine ldRG H (by rfl) _ _ rfl rfl (by kernel_rfl) ?_) | ((with_reducible refine here_store ?_); first | (refine stR H rfl _ _ _ rfl rfl rfl (by rfl) (by rfl) (by kernel_rfl) ?_; clear H; intro wx H) | (refine stS H rfl _ _ _ rfl rfl _ rfl (by rfl) (by rfl) (by rfl) ?_; clear H; intro wx H)) | ((with_reducible refine here_alloc ?_); first | (refine wpList_alloc_st H rfl 37 rfl _ q_zero ?_; clear H; intro gq2 wx H) | (refine wpList_alloc_st H rfl 48 rfl _ ans_zero ?_; clear H; intro ga2 wx H) | (refine wpList_alloc_st H rfl 44 rfl _ ev_zero ?_; clear H; intro ge2 wx H) | (refine wpList_alloc_st H rfl 58 rfl _ ber_zero ?_; clear H; intro gr2 wx H)) | ((with_reducible refine here_box ?_); refine wpList_box_st H rfl _ _ rfl _ rfl ?_; clear H; intro gb2 wx H)))
  have l4 : (loadVar 58 ⟨gr, 0, none⟩).run Try.prog wx = .ok (.agg (bArr r1 A9 r1.es.length c9)) wx := H.loadRow 58 gr row_Berth (P := Try.prog) (by kernel_rfl)
  exact bodyPost_ret (v := .tuple #[.agg (bArr r1 A9 r1.es.length c9), .int .i64 r2]) (by simp [results, Try.results89, asAddr, l4]) rfl (HF.out _ _ _ hc9 (H.subm _))
set_option maxRecDepth 100000 in
set_option maxHeartbeats 8000000 in
theorem only_forget {w0 w : World} {I : List It} (r be bf bd br : Int) (es : List Ev) (A : Option Addr) (n c : Nat) (k qu pe e0 e1 e2 e3 e4 e5 : Int) (g2 g3 : Nat) (R : BM × Int) (CK0 : ∀ W J (H : St w0 W J) (h : Has J (evIt A es)), Calls Try.prog 75 #[.agg #[.int .i64 r, .int .i64 be, .int .i64 bf, .int .i64 bd, .int .i64 br, .slice A n c], .agg #[.int .i64 k, .int .i64 qu, .int .i64 be, .int .i64 pe, .int .i64 e0, .int .i64 e1, .int .i64 e2, .int .i64 e3, .int .i64 e4, .int .i64 e5]] W (BPost w0 J R)) (H : St w0 w I) [h : Has I (evIt A es)] [h2 : HasB I g2 3 #[.int .i64 r]] [h3 : HasB I g3 128 #[.func (.func 75) #[] #[]]] :
    Calls Try.prog 89 #[.agg #[.int .i64 r, .int .i64 be, .int .i64 bf, .int .i64 bd, .int .i64 br, .slice A n c], .agg #[.int .i64 k, .int .i64 qu, .int .i64 be, .int .i64 pe, .int .i64 e0, .int .i64 e1, .int .i64 e2, .int .i64 e3, .int .i64 e4, .int .i64 e5], .pointer (some ⟨g2, 0, none⟩), .pointer (some ⟨g3, 0, none⟩)] w (BPost w0 I R) := by
  have HI := Lib.hid h
  have CK := Lib.hid CK0
  clear CK0 h
  have HFm := Lib.hid (fun W (r : BM × Int) A' c' (h1 : r.1.es.length ≤ c') (h2 : St w0 W (evIt A' r.1.es :: I)) => (BPost.mk rfl h1 h2 : BPost w0 I r (.returned (.tuple #[.agg (bArr r.1 A' r.1.es.length c'), .int .i64 r.2])) W))
  obtain ⟨r1, r2⟩ := R
  have HF := Lib.hid (fun W A' c' h1 h2 => HFm.out W (r1, r2) A' c' h1 h2)
  dsimp only at HF
  clear HFm
  generalize BPost w0 I (r1, r2) = POST at *
  go_enter Try.func89, Try.ntmps89
  go_upto_region 1 with (first | ((with_reducible refine here_boxAt 4 ?_); refine wpList_box_st H rfl _ _ rfl _ rfl ?_; clear H; intro gb wx H) | ((with_reducible refine here_boxAt 5 ?_); refine wpList_box_st H rfl _ _ rfl _ rfl ?_; clear H; intro gx wx H) | (first | ((with_reducible refine here_load ?_); first | refine ldR H rfl _ _ rfl rfl (by kernel_rfl) ?_ | refine ldS H rfl _ _ rfl rfl (by rfl) ?_ | refine ldSG H (by rfl) _ _ rfl rfl (by rfl) ?_ | refine ldRG H (by rfl) _ _ rfl rfl (by kernel_rfl) ?_) | ((with_reducible refine here_store ?_); first | (refine stR H rfl _ _ _ rfl rfl rfl (by rfl) (by rfl) (by kernel_rfl) ?_; clear H; intro wx H) | (refine stS H rfl _ _ _ rfl rfl _ rfl (by rfl) (by rfl) (by rfl) ?_; clear H; intro wx H)) | ((with_reducible refine here_alloc ?_); first | (refine wpList_alloc_st H rfl 37 rfl _ q_zero ?_; clear H; intro gq wx H) | (refine wpList_alloc_st H rfl 48 rfl _ ans_zero ?_; clear H; intro ga wx H) | (refine wpList_alloc_st H rfl 44 rfl _ ev_zero ?_; clear H; intro ge wx H) | (refine wpList_alloc_st H rfl 58 rfl _ ber_zero ?_; clear H; intro gr wx H)) | ((with_reducible refine here_box ?_); refine wpList_box_st H rfl _ _ rfl _ rfl ?_; clear H; intro gb wx H)))
  have h := HI.out
  go_wp2_with (first | (go_at_call 75; refine (CK.out _ _ H inferInstance).mono ?_; clear H; rintro ed wy ⟨A9, c9, rfl, hc9, H⟩) | (first | ((with_reducible refine here_load ?_); first | refine ldR H rfl _ _ rfl rfl (by kernel_rfl) ?_ | refine ldS H rfl _ _ rfl rfl (by rfl) ?_ | refine ldSG H (by rfl) _ _ rfl rfl (by rfl) ?_ | refine ldRG H (by rfl) _ _ rfl rfl (by kernel_rfl) ?_) | ((with_reducible refine here_store ?_); first | (refine stR H rfl _ _ _ rfl rfl rfl (by rfl) (by rfl) (by kernel_rfl) ?_; clear H; intro wx H) | (refine stS H rfl _ _ _ rfl rfl _ rfl (by rfl) (by rfl) (by rfl) ?_; clear H; intro wx H)) | ((with_reducible refine here_alloc ?_); first | (refine wpList_alloc_st H rfl 37 rfl _ q_zero ?_; clear H; intro gq2 wx H) | (refine wpList_alloc_st H rfl 48 rfl _ ans_zero ?_; clear H; intro ga2 wx H) | (refine wpList_alloc_st H rfl 44 rfl _ ev_zero ?_; clear H; intro ge2 wx H) | (refine wpList_alloc_st H rfl 58 rfl _ ber_zero ?_; clear H; intro gr2 wx H)) | ((with_reducible refine here_box ?_); refine wpList_box_st H rfl _ _ rfl _ rfl ?_; clear H; intro gb2 wx H)))
  have l4 : (loadVar 58 ⟨gr, 0, none⟩).run Try.prog wx = .ok (.agg (bArr r1 A9 r1.es.length c9)) wx := H.loadRow 58 gr row_Berth (P := Try.prog) (by kernel_rfl)
  exact bodyPost_ret (v := .tuple #[.agg (bArr r1 A9 r1.es.length c9), .int .i64 r2]) (by simp [results, Try.results89, asAddr, l4]) rfl (HF.out _ _ _ hc9 (H.subm _))

end Go.Proofs.Ytjmncbfmjeeneaa
