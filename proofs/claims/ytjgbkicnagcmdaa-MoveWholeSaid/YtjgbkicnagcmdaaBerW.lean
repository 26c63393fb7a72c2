/- Berths: with (events in memory of their own). -/
import Derived.Test.YtjgbkicnagcmdaaBer
namespace Go.Proofs.Ytjgbkicnagcmdaa
open Go.RowKit

set_option maxRecDepth 100000 in
set_option maxHeartbeats 8000000 in
theorem with_st {w0 w : World} {I : List It} (b : BM) (l : List Ev) (A A2 : Option Addr) (n c m c2 : Nat) (hl : b.es.length = n) (hl2 : l.length = m) (hn : n ≤ 150) (hm : m ≤ 150) (hc : n ≤ c) (H : St w0 w I) [h : Has I (evIt A b.es)] [h2 : Has I (evIt A2 l)] :
    Calls Try.prog 35 #[.agg (bArr b A n c), .slice A2 m c2] w (fun ed w' => ∃ A' c', ed = .returned (.agg (bArr b A' (n + m) c')) ∧ n + m ≤ c' ∧ St w0 w' (evIt A' (b.es ++ l) :: I)) := by
  have HF := Lib.hid (show ∀ W A' c', n + m ≤ c' → St w0 W (evIt A' (b.es ++ l) :: I) → (fun ed w' => ∃ A' c', ed = Ending.returned (.agg (bArr b A' (n + m) c')) ∧ n + m ≤ c' ∧ St w0 w' (evIt A' (b.es ++ l) :: I)) (Ending.returned (.agg (bArr b A' (n + m) c'))) W from fun W A' c' h1 h2 => ⟨A', c', rfl, h1, h2⟩)
  generalize (fun ed w' => ∃ A' c', ed = Ending.returned (.agg (bArr b A' (n + m) c')) ∧ n + m ≤ c' ∧ St w0 w' (evIt A' (b.es ++ l) :: I)) = POST at *
  have HI := Lib.hid h
  have HI2 := Lib.hid h2
  have HL := Lib.hid hl
  have HL2 := Lib.hid hl2
  clear h h2 hl hl2
  unfold bArr at HF ⊢
  go_enter Try.func35, Try.ntmps35
  go_wp2_with (first
    | ((with_reducible refine here_load ?_); first | (refine wpList_load_st H rfl 46 _ rfl rfl row_Queue (by kernel_rfl) ?_) | (refine wpList_load_st H rfl 50 _ rfl rfl row_Answer (by kernel_rfl) ?_) | (refine wpList_load_st H rfl 37 _ rfl rfl row_Event (by kernel_rfl) ?_) | (refine wpList_load_st H rfl 27 _ rfl rfl row_Berth (by kernel_rfl) ?_) | (refine wpList_load1_st H rfl 3 _ rfl rfl sc_int (by rfl) ?_) | (refine wpList_load1_stG H (by rfl) 3 _ rfl rfl sc_int (by rfl) ?_) | (refine wpList_load1_st H rfl 4 _ rfl rfl sc_bool (by rfl) ?_) | (refine wpList_load1_stG H (by rfl) 4 _ rfl rfl sc_bool (by rfl) ?_) | (refine wpList_load1_st H rfl 30 _ rfl rfl sc_Errno (by rfl) ?_) | (refine wpList_load1_stG H (by rfl) 30 _ rfl rfl sc_Errno (by rfl) ?_) | (refine wpList_load1_st H rfl 25 _ rfl rfl sc_Evs (by rfl) ?_) | (refine wpList_load1_stG H (by rfl) 25 _ rfl rfl sc_Evs (by rfl) ?_))
    | ((with_reducible refine here_store ?_); first | (refine wpList_store_st H rfl 46 _ _ rfl rfl rfl (by kernel_rfl) (by rfl) (by kernel_rfl) ?_; clear H; intro wx H) | (refine wpList_store_st H rfl 50 _ _ rfl rfl rfl (by kernel_rfl) (by rfl) (by kernel_rfl) ?_; clear H; intro wx H) | (refine wpList_store_st H rfl 37 _ _ rfl rfl rfl (by kernel_rfl) (by rfl) (by kernel_rfl) ?_; clear H; intro wx H) | (refine wpList_store_st H rfl 27 _ _ rfl rfl rfl (by kernel_rfl) (by rfl) (by kernel_rfl) ?_; clear H; intro wx H) | (refine wpList_store1_st H rfl 3 _ _ rfl rfl _ rfl (by rfl) s1_int (by rfl) (by rfl) ?_; clear H; intro wx H) | (refine wpList_store1_st H rfl 4 _ _ rfl rfl _ rfl (by rfl) s1_bool (by rfl) (by rfl) ?_; clear H; intro wx H) | (refine wpList_store1_st H rfl 30 _ _ rfl rfl _ rfl (by rfl) s1_Errno (by rfl) (by rfl) ?_; clear H; intro wx H) | (refine wpList_store1_st H rfl 25 _ _ rfl rfl _ rfl (by rfl) s1_Evs (by rfl) (by rfl) ?_; clear H; intro wx H))
    | ((with_reducible refine here_alloc ?_); first | (refine wpList_alloc_st H rfl 46 rfl _ q_zero ?_; clear H; intro gq wx H) | (refine wpList_alloc_st H rfl 50 rfl _ ans_zero ?_; clear H; intro ga wx H) | (refine wpList_alloc_st H rfl 37 rfl _ ev_zero ?_; clear H; intro ge wx H) | (refine wpList_alloc_st H rfl 27 rfl _ ber_zero ?_; clear H; intro gr wx H))
    | ((with_reducible refine here_box ?_); first | (refine wpList_box_st H rfl _ _ rfl _ rfl ?_; clear H; intro gb wx H)))
  have h := HI.out
  refine (clone_ev_st b.es A n c HL.out H (by omega) hc).mono ?_
  clear H h
  rintro ed wy ⟨v, rfl, H⟩
  have h2 := HI2.out
  go_wp2_with (first | ((with_reducible refine here_call ?_); refine wpList_append_st (v := v) H rfl _ _ 25 rfl rfl rfl Try.underlying25 _ _ ev_info (by rfl) (by omega) (H.evReads (es := l) HL2.out) (qevCells_one _) (by simp only [maxLen]; omega) (by omega) ?_; clear H; intro A7 c7 wx hc7 hc7' H) | (first
    | ((with_reducible refine here_load ?_); first | (refine wpList_load_st H rfl 46 _ rfl rfl row_Queue (by kernel_rfl) ?_) | (refine wpList_load_st H rfl 50 _ rfl rfl row_Answer (by kernel_rfl) ?_) | (refine wpList_load_st H rfl 37 _ rfl rfl row_Event (by kernel_rfl) ?_) | (refine wpList_load_st H rfl 27 _ rfl rfl row_Berth (by kernel_rfl) ?_) | (refine wpList_load1_st H rfl 3 _ rfl rfl sc_int (by rfl) ?_) | (refine wpList_load1_stG H (by rfl) 3 _ rfl rfl sc_int (by rfl) ?_) | (refine wpList_load1_st H rfl 4 _ rfl rfl sc_bool (by rfl) ?_) | (refine wpList_load1_stG H (by rfl) 4 _ rfl rfl sc_bool (by rfl) ?_) | (refine wpList_load1_st H rfl 30 _ rfl rfl sc_Errno (by rfl) ?_) | (refine wpList_load1_stG H (by rfl) 30 _ rfl rfl sc_Errno (by rfl) ?_) | (refine wpList_load1_st H rfl 25 _ rfl rfl sc_Evs (by rfl) ?_) | (refine wpList_load1_stG H (by rfl) 25 _ rfl rfl sc_Evs (by rfl) ?_))
    | ((with_reducible refine here_store ?_); first | (refine wpList_store_st H rfl 46 _ _ rfl rfl rfl (by kernel_rfl) (by rfl) (by kernel_rfl) ?_; clear H; intro wx H) | (refine wpList_store_st H rfl 50 _ _ rfl rfl rfl (by kernel_rfl) (by rfl) (by kernel_rfl) ?_; clear H; intro wx H) | (refine wpList_store_st H rfl 37 _ _ rfl rfl rfl (by kernel_rfl) (by rfl) (by kernel_rfl) ?_; clear H; intro wx H) | (refine wpList_store_st H rfl 27 _ _ rfl rfl rfl (by kernel_rfl) (by rfl) (by kernel_rfl) ?_; clear H; intro wx H) | (refine wpList_store1_st H rfl 3 _ _ rfl rfl _ rfl (by rfl) s1_int (by rfl) (by rfl) ?_; clear H; intro wx H) | (refine wpList_store1_st H rfl 4 _ _ rfl rfl _ rfl (by rfl) s1_bool (by rfl) (by rfl) ?_; clear H; intro wx H) | (refine wpList_store1_st H rfl 30 _ _ rfl rfl _ rfl (by rfl) s1_Errno (by rfl) (by rfl) ?_; clear H; intro wx H) | (refine wpList_store1_st H rfl 25 _ _ rfl rfl _ rfl (by rfl) s1_Evs (by rfl) (by rfl) ?_; clear H; intro wx H))
    | ((with_reducible refine here_alloc ?_); first | (refine wpList_alloc_st H rfl 46 rfl _ q_zero ?_; clear H; intro gq wx H) | (refine wpList_alloc_st H rfl 50 rfl _ ans_zero ?_; clear H; intro ga wx H) | (refine wpList_alloc_st H rfl 37 rfl _ ev_zero ?_; clear H; intro ge wx H) | (refine wpList_alloc_st H rfl 27 rfl _ ber_zero ?_; clear H; intro gr wx H))
    | ((with_reducible refine here_box ?_); first | (refine wpList_box_st H rfl _ _ rfl _ rfl ?_; clear H; intro gb wx H))))
  rw [← qevCells_app] at H
  replace H := H.freezeEvAt (A := A7) (c := c7) (n := n + m) (es := b.es ++ l) (by rw [List.length_append, HL.out, HL2.out])
  have l4 : (loadVar 27 ⟨gr, 0, none⟩).run Try.prog wx = .ok (.agg #[.int .i64 b.role, .int .i64 b.ep, .int .i64 b.frm, .int .i64 b.dst, .int .i64 b.rounds, .slice A7 (n + m) c7]) wx := H.loadRow 27 gr row_Berth (P := Try.prog) (by kernel_rfl)
  (try simp only [Act.put, List.setIfInBounds_toArray, List.set_cons_zero, List.set_cons_succ])
  exact bodyPost_ret (v := .agg #[.int .i64 b.role, .int .i64 b.ep, .int .i64 b.frm, .int .i64 b.dst, .int .i64 b.rounds, .slice A7 (n + m) c7]) (by simp [results, Try.results35, asAddr, l4]) rfl (HF.out _ _ _ hc7 (H.subm _))
theorem with_nil {w0 w : World} {I : List It} (b : BM) (A : Option Addr) (n c : Nat) (hl : b.es.length = n) (hn : n ≤ 150) (hc : n ≤ c) (H : St w0 w I) [h : Has I (evIt A b.es)] :
    Calls Try.prog 35 #[.agg (bArr b A n c), .slice none 0 0] w (fun ed w' => ∃ A' c', ed = .returned (.agg (bArr b A' n c')) ∧ n ≤ c' ∧ St w0 w' (evIt A' b.es :: I)) := by
  have H2 : St w0 w (evIt none [] :: I) := H.old (s := 6) (n := 0) (A := none) (xs := []) Reads.none_
  refine (with_st b [] A none n c 0 0 hl rfl hn (by omega) hc H2).mono fun ed w' ⟨A', c', h1, h2, h3⟩ => ⟨A', c', ?_, h2, ?_⟩
  · rw [h1]
    rfl
  · rw [List.append_nil] at h3
    exact h3.subm _

end Go.Proofs.Ytjgbkicnagcmdaa
