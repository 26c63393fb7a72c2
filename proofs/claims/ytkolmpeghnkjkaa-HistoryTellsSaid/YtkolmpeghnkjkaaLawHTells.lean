/- HistoryTells: the walk. -/
import Derived.Test.YtkolmpeghnkjkaaHLaw
import Derived.Test.YtkolmpeghnkjkaaHSame
import Derived.Deep.QuietTactic
import Derived.BigQuiet
import Derived.Deep.Cut
import Derived.Deep.DeepCutAuto
namespace Go.Proofs.Ytkolmpeghnkjkaa
open Go.RowKit

theorem ans_neq_same (a b c d : Int) (w : World) : (binOp .neq 47 (.agg #[.int .i64 a, .int .i64 b, .int .i64 c, .int .i64 d]) (.agg #[.int .i64 a, .int .i64 b, .int .i64 c, .int .i64 d])).run Try.prog w = .ok (.bool false) w := by
  have h1 : Try.prog.underlying 47 = some (.struct (Try.prog.fieldsOf 47)) := by kernel_rfl
  have h2 : Try.prog.stoodInHeld 47 = false := by kernel_rfl
  rw [run_neq_struct, run_equalIn_struct _ _ _ _ _ h1 h2]
  simp [go_sem]
theorem qansAt {w : World} {B n i : Nat} {A : Option Addr} {es : List QA} (hr : Reads w B 4 A n (qansCells es)) (hl : es.length = n) (hi : i < n) :
    ∃ b off, A = some ⟨b, off, none⟩ ∧ b < B ∧ w.cell? ⟨b, off + i * 4, none⟩ = some (.int .i64 (es.getD i ⟨0, 0, 0, 0⟩).code) ∧ w.cell? ⟨b, off + i * 4 + 1, none⟩ = some (.int .i64 (es.getD i ⟨0, 0, 0, 0⟩).ep) ∧
      w.cell? ⟨b, off + i * 4 + 2, none⟩ = some (.int .i64 (es.getD i ⟨0, 0, 0, 0⟩).no) ∧ w.cell? ⟨b, off + i * 4 + 3, none⟩ = some (.int .i64 (es.getD i ⟨0, 0, 0, 0⟩).body) := by
  have hr1 : es[i]? = some (es.getD i ⟨0, 0, 0, 0⟩) := by rw [List.getElem?_eq_getElem (show i < es.length by omega)]; simp [List.getD, List.getElem?_eq_getElem (show i < es.length by omega)]
  obtain ⟨b, off, h1, h2, h3⟩ := rowAt hr (by simpa using hl) (fun r hr => by obtain ⟨x, _, rfl⟩ := List.mem_map.1 hr; rfl) (by omega) hi (r := qansRow (es.getD i ⟨0, 0, 0, 0⟩)) (by rw [List.getElem?_map, hr1]; rfl)
  exact ⟨b, off, h1, h2, h3 0 _ rfl, h3 1 _ rfl, h3 2 _ rfl, h3 3 _ rfl⟩
theorem answers_n {w0 w : World} {I : List It} (es : List Ev) (A : Option Addr) (n c : Nat) (hl : es.length = n) (H : St w0 w I) [he : Has I (evIt A es)] (hck : ∀ e ∈ es, e.check = 0) (hn : n ≤ 150) (hc : n ≤ c) :
    Calls Try.prog 24 #[.slice A n c] w (AnswersPost w0 I es) := by
  subst hl
  exact answers_st es A c H hck hn hc

set_option maxRecDepth 100000 in
set_option maxHeartbeats 8000000 in
theorem historyTells_walk (A : Option Addr) (n c : Nat) (rows : List (List Int)) (w : World) (h : IsRows 4 32 w A n c rows) :
    Calls Try.prog 14 #[.slice A n c] w fun e w' => e = .returned (.bool true) ∧ Below w.heap.size w w' := by
  have H := St.start w
  have PL := Lib.hid (fun I H => played_st (w0 := w) (w := w) (I := I) A n c 60 rows H h (by omega))
  have hok := playN_ok rows (min n 60) (by omega)
  have hsn := playN_seen rows (min n 60)
  have htp := tells_played rows (min n 60)
  have hf := (fun (h0 : 0 < n) (h8 : pick ((rows.getD 0 []).getD 0 0) 8 < 3) => show 1 ≤ (playN rows (min n 60)).q.nx from by
    rw [show min n 60 = (min n 60 - 1) + 1 by omega]
    exact playN_first rows h8 _)
  generalize playN rows (min n 60) = p at *
  have hle := hok.le
  have hroom := hok.room
  have hinv := hok.inv
  obtain ⟨M, hM⟩ : ∃ M, p.es.length = M := ⟨_, rfl⟩
  have hM60 : M ≤ 60 := by omega
  have hck : ∀ e ∈ p.es, e.check = 0 := fun e he => (hsn e he).1
  have n0 := tells_nums p.es _ _ _ _ hck QM.zero_inv htp
  have n1 := n0.1
  have n4 := n0.2.2.2
  have hA : p.ans.length = M := by simpa [hM] using n4
  have hc1 : p.es.countP (isKind 1) ≤ M := by rw [← hM]; exact List.countP_le_length
  have hpos : 0 < n → pick ((rows.getD 0 []).getD 0 0) 8 < 3 → 1 ≤ M := fun h0 h8 => by
    have h1 := hf h0 h8
    rw [n1, show QM.zero.nx = 0 from rfl] at h1
    omega
  have hlen : p.q.rd.length + p.q.ls.length ≤ 1000 := by have := hroom.1; omega
  have HM := Lib.hid hM
  have HA := Lib.hid hA
  have HR := Lib.hid htp
  have HCE := Lib.hid hck
  have HP := Lib.hid hpos
  have HRW := Lib.hid h
  have HL := Lib.hid hlen
  clear hok hsn htp hf hM hle hroom hinv hck n0 n1 n4 hA hc1 hpos hlen h
  go_enter Try.func14, Try.ntmps14
  go_wp2_with fail
  refine (PL.out _ H).mono ?_
  clear H PL
  rintro ed wx ⟨B1, d1, B2, d2, Ae, ce, Aa, ca, rfl, k1, k2, k3, k4, H⟩
  rw [HM.out] at k3 ⊢
  rw [HA.out] at k4 ⊢
  go_upto_region 2 with (first
    | ((with_reducible refine here_load ?_); first | (refine wpList_load_st H rfl 30 _ rfl rfl row_Queue (by kernel_rfl) ?_) | (refine wpList_load_st H rfl 47 _ rfl rfl row_Answer (by kernel_rfl) ?_) | (refine wpList_load_st H rfl 45 _ rfl rfl row_Event (by kernel_rfl) ?_) | (refine wpList_load_st H rfl 38 _ rfl rfl row_Deed (by kernel_rfl) ?_) | (refine wpList_load1_st H rfl 3 _ rfl rfl sc_int (by rfl) ?_) | (refine wpList_load1_stG H (by rfl) 3 _ rfl rfl sc_int (by rfl) ?_) | (refine wpList_load1_st H rfl 4 _ rfl rfl sc_bool (by rfl) ?_) | (refine wpList_load1_stG H (by rfl) 4 _ rfl rfl sc_bool (by rfl) ?_) | (refine wpList_load1_st H rfl 40 _ rfl rfl sc_Errno (by rfl) ?_) | (refine wpList_load1_stG H (by rfl) 40 _ rfl rfl sc_Errno (by rfl) ?_) | (refine wpList_load1_st H rfl 23 _ rfl rfl sc_Msgs (by rfl) ?_) | (refine wpList_load1_stG H (by rfl) 23 _ rfl rfl sc_Msgs (by rfl) ?_) | (refine wpList_load1_st H rfl 24 _ rfl rfl sc_Lss (by rfl) ?_) | (refine wpList_load1_stG H (by rfl) 24 _ rfl rfl sc_Lss (by rfl) ?_))
    | ((with_reducible refine here_store ?_); first | (refine wpList_store_st H rfl 30 _ _ rfl rfl rfl (by kernel_rfl) (by rfl) (by kernel_rfl) ?_; clear H; intro wx H) | (refine wpList_store_st H rfl 47 _ _ rfl rfl rfl (by kernel_rfl) (by rfl) (by kernel_rfl) ?_; clear H; intro wx H) | (refine wpList_store_st H rfl 45 _ _ rfl rfl rfl (by kernel_rfl) (by rfl) (by kernel_rfl) ?_; clear H; intro wx H) | (refine wpList_store_st H rfl 38 _ _ rfl rfl rfl (by kernel_rfl) (by rfl) (by kernel_rfl) ?_; clear H; intro wx H) | (refine wpList_store1_st H rfl 3 _ _ rfl rfl _ rfl (by rfl) s1_int (by rfl) (by rfl) ?_; clear H; intro wx H) | (refine wpList_store1_st H rfl 4 _ _ rfl rfl _ rfl (by rfl) s1_bool (by rfl) (by rfl) ?_; clear H; intro wx H) | (refine wpList_store1_st H rfl 40 _ _ rfl rfl _ rfl (by rfl) s1_Errno (by rfl) (by rfl) ?_; clear H; intro wx H) | (refine wpList_store1_st H rfl 23 _ _ rfl rfl _ rfl (by rfl) s1_Msgs (by rfl) (by rfl) ?_; clear H; intro wx H) | (refine wpList_store1_st H rfl 24 _ _ rfl rfl _ rfl (by rfl) s1_Lss (by rfl) (by rfl) ?_; clear H; intro wx H))
    | ((with_reducible refine here_alloc ?_); first | (refine wpList_alloc_st H rfl 30 rfl _ q_zero ?_; clear H; intro gq wx H) | (refine wpList_alloc_st H rfl 47 rfl _ ans_zero ?_; clear H; intro ga wx H) | (refine wpList_alloc_st H rfl 45 rfl _ ev_zero ?_; clear H; intro ge wx H))
    | ((with_reducible refine here_box ?_); first | (refine wpList_box_st H rfl _ _ rfl _ rfl ?_; clear H; intro gb wx H)))
  go_wp2_with fail
  refine (replay_n p.es Ae M ce HM.out H HCE.out (by omega) k3).mono ?_
  rintro ed wy ⟨h1, _⟩
  clear H
  obtain ⟨G1, y1, G2, y2, rfl, v1, v2, H⟩ := h1 _ _ HR.out
  clear h1
  go_upto_region 3 with (first
    | ((with_reducible refine here_load ?_); first | (refine wpList_load_st H rfl 30 _ rfl rfl row_Queue (by kernel_rfl) ?_) | (refine wpList_load_st H rfl 47 _ rfl rfl row_Answer (by kernel_rfl) ?_) | (refine wpList_load_st H rfl 45 _ rfl rfl row_Event (by kernel_rfl) ?_) | (refine wpList_load_st H rfl 38 _ rfl rfl row_Deed (by kernel_rfl) ?_) | (refine wpList_load1_st H rfl 3 _ rfl rfl sc_int (by rfl) ?_) | (refine wpList_load1_stG H (by rfl) 3 _ rfl rfl sc_int (by rfl) ?_) | (refine wpList_load1_st H rfl 4 _ rfl rfl sc_bool (by rfl) ?_) | (refine wpList_load1_stG H (by rfl) 4 _ rfl rfl sc_bool (by rfl) ?_) | (refine wpList_load1_st H rfl 40 _ rfl rfl sc_Errno (by rfl) ?_) | (refine wpList_load1_stG H (by rfl) 40 _ rfl rfl sc_Errno (by rfl) ?_) | (refine wpList_load1_st H rfl 23 _ rfl rfl sc_Msgs (by rfl) ?_) | (refine wpList_load1_stG H (by rfl) 23 _ rfl rfl sc_Msgs (by rfl) ?_) | (refine wpList_load1_st H rfl 24 _ rfl rfl sc_Lss (by rfl) ?_) | (refine wpList_load1_stG H (by rfl) 24 _ rfl rfl sc_Lss (by rfl) ?_))
    | ((with_reducible refine here_store ?_); first | (refine wpList_store_st H rfl 30 _ _ rfl rfl rfl (by kernel_rfl) (by rfl) (by kernel_rfl) ?_; clear H; intro wx H) | (refine wpList_store_st H rfl 47 _ _ rfl rfl rfl (by kernel_rfl) (by rfl) (by kernel_rfl) ?_; clear H; intro wx H) | (refine wpList_store_st H rfl 45 _ _ rfl rfl rfl (by kernel_rfl) (by rfl) (by kernel_rfl) ?_; clear H; intro wx H) | (refine wpList_store_st H rfl 38 _ _ rfl rfl rfl (by kernel_rfl) (by rfl) (by kernel_rfl) ?_; clear H; intro wx H) | (refine wpList_store1_st H rfl 3 _ _ rfl rfl _ rfl (by rfl) s1_int (by rfl) (by rfl) ?_; clear H; intro wx H) | (refine wpList_store1_st H rfl 4 _ _ rfl rfl _ rfl (by rfl) s1_bool (by rfl) (by rfl) ?_; clear H; intro wx H) | (refine wpList_store1_st H rfl 40 _ _ rfl rfl _ rfl (by rfl) s1_Errno (by rfl) (by rfl) ?_; clear H; intro wx H) | (refine wpList_store1_st H rfl 23 _ _ rfl rfl _ rfl (by rfl) s1_Msgs (by rfl) (by rfl) ?_; clear H; intro wx H) | (refine wpList_store1_st H rfl 24 _ _ rfl rfl _ rfl (by rfl) s1_Lss (by rfl) (by rfl) ?_; clear H; intro wx H))
    | ((with_reducible refine here_alloc ?_); first | (refine wpList_alloc_st H rfl 30 rfl _ q_zero ?_; clear H; intro gq2 wx H) | (refine wpList_alloc_st H rfl 47 rfl _ ans_zero ?_; clear H; intro ga2 wx H) | (refine wpList_alloc_st H rfl 45 rfl _ ev_zero ?_; clear H; intro ge2 wx H))
    | ((with_reducible refine here_box ?_); first | (refine wpList_box_st H rfl _ _ rfl _ rfl ?_; clear H; intro gb2 wx H)))
  go_wp2_with fail
  refine (answers_n p.es Ae M ce HM.out H HCE.out (by omega) k3).mono ?_
  rintro ed wz ⟨h1, _⟩
  clear H
  obtain ⟨Ab, cb, rfl, v3, H⟩ := h1 _ _ HR.out
  clear h1
  rw [HA.out] at v3 ⊢
  go_upto_region 4 with (first
    | ((with_reducible refine here_load ?_); first | (refine wpList_load_st H rfl 30 _ rfl rfl row_Queue (by kernel_rfl) ?_) | (refine wpList_load_st H rfl 47 _ rfl rfl row_Answer (by kernel_rfl) ?_) | (refine wpList_load_st H rfl 45 _ rfl rfl row_Event (by kernel_rfl) ?_) | (refine wpList_load_st H rfl 38 _ rfl rfl row_Deed (by kernel_rfl) ?_) | (refine wpList_load1_st H rfl 3 _ rfl rfl sc_int (by rfl) ?_) | (refine wpList_load1_stG H (by rfl) 3 _ rfl rfl sc_int (by rfl) ?_) | (refine wpList_load1_st H rfl 4 _ rfl rfl sc_bool (by rfl) ?_) | (refine wpList_load1_stG H (by rfl) 4 _ rfl rfl sc_bool (by rfl) ?_) | (refine wpList_load1_st H rfl 40 _ rfl rfl sc_Errno (by rfl) ?_) | (refine wpList_load1_stG H (by rfl) 40 _ rfl rfl sc_Errno (by rfl) ?_) | (refine wpList_load1_st H rfl 23 _ rfl rfl sc_Msgs (by rfl) ?_) | (refine wpList_load1_stG H (by rfl) 23 _ rfl rfl sc_Msgs (by rfl) ?_) | (refine wpList_load1_st H rfl 24 _ rfl rfl sc_Lss (by rfl) ?_) | (refine wpList_load1_stG H (by rfl) 24 _ rfl rfl sc_Lss (by rfl) ?_))
    | ((with_reducible refine here_store ?_); first | (refine wpList_store_st H rfl 30 _ _ rfl rfl rfl (by kernel_rfl) (by rfl) (by kernel_rfl) ?_; clear H; intro wx H) | (refine wpList_store_st H rfl 47 _ _ rfl rfl rfl (by kernel_rfl) (by rfl) (by kernel_rfl) ?_; clear H; intro wx H) | (refine wpList_store_st H rfl 45 _ _ rfl rfl rfl (by kernel_rfl) (by rfl) (by kernel_rfl) ?_; clear H; intro wx H) | (refine wpList_store_st H rfl 38 _ _ rfl rfl rfl (by kernel_rfl) (by rfl) (by kernel_rfl) ?_; clear H; intro wx H) | (refine wpList_store1_st H rfl 3 _ _ rfl rfl _ rfl (by rfl) s1_int (by rfl) (by rfl) ?_; clear H; intro wx H) | (refine wpList_store1_st H rfl 4 _ _ rfl rfl _ rfl (by rfl) s1_bool (by rfl) (by rfl) ?_; clear H; intro wx H) | (refine wpList_store1_st H rfl 40 _ _ rfl rfl _ rfl (by rfl) s1_Errno (by rfl) (by rfl) ?_; clear H; intro wx H) | (refine wpList_store1_st H rfl 23 _ _ rfl rfl _ rfl (by rfl) s1_Msgs (by rfl) (by rfl) ?_; clear H; intro wx H) | (refine wpList_store1_st H rfl 24 _ _ rfl rfl _ rfl (by rfl) s1_Lss (by rfl) (by rfl) ?_; clear H; intro wx H))
    | ((with_reducible refine here_alloc ?_); first | (refine wpList_alloc_st H rfl 30 rfl _ q_zero ?_; clear H; intro gq3 wx H) | (refine wpList_alloc_st H rfl 47 rfl _ ans_zero ?_; clear H; intro ga3 wx H) | (refine wpList_alloc_st H rfl 45 rfl _ ev_zero ?_; clear H; intro ge3 wx H))
    | ((with_reducible refine here_box ?_); first | (refine wpList_box_st H rfl _ _ rfl _ rfl ?_; clear H; intro gb3 wx H)))
  go_upto_region 6 with (first | (go_at_call 23; refine (same_st p.q H HL.out v1 v2 k1 k2).mono ?_; clear H; rintro ed wx ⟨rfl, H⟩) | (first
    | ((with_reducible refine here_load ?_); refine wpList_loadPart_stG H (by rfl) 30 _ rfl rfl row_Queue (by kernel_rfl) (by rfl) _ (qArr_all _ _ _ _ _) ?_)
    | ((with_reducible refine here_load ?_); first | (refine wpList_load_st H rfl 30 _ rfl rfl row_Queue (by kernel_rfl) ?_) | (refine wpList_load_st H rfl 47 _ rfl rfl row_Answer (by kernel_rfl) ?_) | (refine wpList_load_st H rfl 45 _ rfl rfl row_Event (by kernel_rfl) ?_) | (refine wpList_load_st H rfl 38 _ rfl rfl row_Deed (by kernel_rfl) ?_) | (refine wpList_load1_st H rfl 3 _ rfl rfl sc_int (by rfl) ?_) | (refine wpList_load1_stG H (by rfl) 3 _ rfl rfl sc_int (by rfl) ?_) | (refine wpList_load1_st H rfl 4 _ rfl rfl sc_bool (by rfl) ?_) | (refine wpList_load1_stG H (by rfl) 4 _ rfl rfl sc_bool (by rfl) ?_) | (refine wpList_load1_st H rfl 40 _ rfl rfl sc_Errno (by rfl) ?_) | (refine wpList_load1_stG H (by rfl) 40 _ rfl rfl sc_Errno (by rfl) ?_) | (refine wpList_load1_st H rfl 23 _ rfl rfl sc_Msgs (by rfl) ?_) | (refine wpList_load1_stG H (by rfl) 23 _ rfl rfl sc_Msgs (by rfl) ?_) | (refine wpList_load1_st H rfl 24 _ rfl rfl sc_Lss (by rfl) ?_) | (refine wpList_load1_stG H (by rfl) 24 _ rfl rfl sc_Lss (by rfl) ?_))
    | ((with_reducible refine here_store ?_); first | (refine wpList_store_st H rfl 30 _ _ rfl rfl rfl (by kernel_rfl) (by rfl) (by kernel_rfl) ?_; clear H; intro wx H) | (refine wpList_store_st H rfl 47 _ _ rfl rfl rfl (by kernel_rfl) (by rfl) (by kernel_rfl) ?_; clear H; intro wx H) | (refine wpList_store_st H rfl 45 _ _ rfl rfl rfl (by kernel_rfl) (by rfl) (by kernel_rfl) ?_; clear H; intro wx H) | (refine wpList_store_st H rfl 38 _ _ rfl rfl rfl (by kernel_rfl) (by rfl) (by kernel_rfl) ?_; clear H; intro wx H) | (refine wpList_store1_st H rfl 3 _ _ rfl rfl _ rfl (by rfl) s1_int (by rfl) (by rfl) ?_; clear H; intro wx H) | (refine wpList_store1_st H rfl 4 _ _ rfl rfl _ rfl (by rfl) s1_bool (by rfl) (by rfl) ?_; clear H; intro wx H) | (refine wpList_store1_st H rfl 40 _ _ rfl rfl _ rfl (by rfl) s1_Errno (by rfl) (by rfl) ?_; clear H; intro wx H) | (refine wpList_store1_st H rfl 23 _ _ rfl rfl _ rfl (by rfl) s1_Msgs (by rfl) (by rfl) ?_; clear H; intro wx H) | (refine wpList_store1_st H rfl 24 _ _ rfl rfl _ rfl (by rfl) s1_Lss (by rfl) (by rfl) ?_; clear H; intro wx H))
    | ((with_reducible refine here_alloc ?_); first | (refine wpList_alloc_st H rfl 30 rfl _ q_zero ?_; clear H; intro gq3 wx H) | (refine wpList_alloc_st H rfl 47 rfl _ ans_zero ?_; clear H; intro ga3 wx H) | (refine wpList_alloc_st H rfl 45 rfl _ ev_zero ?_; clear H; intro ge3 wx H))
    | ((with_reducible refine here_box ?_); first | (refine wpList_box_st H rfl _ _ rfl _ rfl ?_; clear H; intro gb3 wx H))))
  replace H : St w wx [anIt Aa p.ans, anIt Ab p.ans] := H.subm _
  (try simp only [Act.put, List.setIfInBounds_toArray, List.set_cons_zero, List.set_cons_succ])
  go_cut [67] (fun s67 wx => s67 = .bool false ∧ St w wx [anIt Aa p.ans, anIt Ab p.ans])
  case first =>
    rcases Nat.eq_zero_or_pos n with h0 | h0
    · subst h0
      go_wp2_with fail
      go_meet
      exact ⟨rfl, H⟩
    · obtain ⟨hl, hnc, hcb, hr, hs⟩ := HRW.out
      obtain ⟨b, off, rfl, hb, g1, l1⟩ := row4q hl hs hr h0
      have q0 : w.cell? ⟨b, off, none⟩ = some (.int .i64 ((rows.getD 0 []).getD 0 0)) := g1 0 (by omega)
      have q0' := (H.bel.cell (p := ⟨b, off, none⟩) hb).trans q0
      obtain ⟨z1, z2⟩ := l1 0
      have hpx := HP.out h0
      have PJ := Lib.hid (fun W => (picked_any ((rows.getD 0 []).getD 0 0) 8 W z1 z2 (by omega) (by omega)).mono (fun e w' h => (⟨h.1, h.2.symm⟩ : e = .returned (.int .i64 (pick ((rows.getD 0 []).getD 0 0) 8)) ∧ w' = W)))
      have hcI : (n : Int) ≤ (c : Int) := by omega
      have hn1 : (0 : Int) < (n : Int) := by omega
      clear q0 g1 l1 hl hnc hcb hr hs
      by_cases h3 : pick ((rows.getD 0 []).getD 0 0) 8 < 3
      · have hx := hpx h3
        generalize pick ((rows.getD 0 []).getD 0 0) 8 = k at *
        generalize (rows.getD 0 []).getD 0 0 = z at *
        have d1 : k ≤ 2 := by omega
        have d2 : ¬ (M : Int) = 0 := by omega
        clear hpx
        go_wp2_with (go_at_call 17; refine (PJ.out _).mono ?_; rintro e w' ⟨rfl, rfl⟩)
        go_meet
        exact ⟨by simp; omega, H⟩
      · generalize pick ((rows.getD 0 []).getD 0 0) 8 = k at *
        generalize (rows.getD 0 []).getD 0 0 = z at *
        have d1 : ¬ k ≤ 2 := by omega
        clear hpx
        go_wp2_with (go_at_call 17; refine (PJ.out _).mono ?_; rintro e w' ⟨rfl, rfl⟩)
        go_meet
        exact ⟨by first | rfl | simp [d1], H⟩
  case rest =>
    clear H
    obtain ⟨rfl, H⟩ := hcut
    go_upto_region 9 with fail
    go_loopw [11] (fun s11 wr => ∃ (i : Nat), i ≤ M ∧ s11 = .int .i64 i ∧ St w wr [anIt Aa p.ans, anIt Ab p.ans]) (fun s11 _ => M - (intOf s11).toNat)
    case atStart => exact ⟨0, by omega, rfl, H⟩
    case round =>
      clear H
      obtain ⟨i, hi, rfl, H⟩ := hrel
      by_cases hlt : i < M
      · obtain ⟨b, off, hA, hb, x0, x1, x2, x3⟩ := qansAt (H.get (anIt Aa p.ans)) rfl (show i < p.ans.length by rw [HA.out]; exact hlt)
        obtain ⟨b', off', hB, hb', y0, y1, y2, y3⟩ := qansAt (H.get (anIt Ab p.ans)) rfl (show i < p.ans.length by rw [HA.out]; exact hlt)
        subst hA
        subst hB
        have HH := Lib.hid H
        have HLT := Lib.hid hlt
        generalize p.ans.getD i ⟨0, 0, 0, 0⟩ = an at *
        obtain ⟨a1, a2, a3, a4⟩ := an
        dsimp only at x0 x1 x2 x3 y0 y1 y2 y3
        have k6 : (0 : Int) ≤ (i : Int) := by omega
        have k7 : (i : Int) < (M : Int) := by omega
        have k8 : (M : Int) ≤ (ca : Int) := by omega
        have k9 : (M : Int) ≤ (cb : Int) := by omega
        have w1 : IntKind.i64.wrap ((i : Int) + 1) = (i : Int) + 1 := IntWalk.i64_in _ (by omega)
        have hne := ans_neq_same a1 a2 a3 a4
        clear k1 k2 k3 k4 v1 v2 v3 hb hb'
        go_upto_region 11 with fail
        clear H
        go_quiet (fail)
        have H := HH.out.drewN nq
        have hlt := HLT.out
        clear HH x0 x1 x2 x3 y0 y1 y2 y3 hne
        go_wp2_with fail
        go_roundw
        case rel => exact ⟨i + 1, by omega, by go_num, H⟩
        case measure => simp [intOf]; omega
      · obtain rfl : i = M := by omega
        have hlt2 : ¬ (i : Int) < (i : Int) := by omega
        clear k1 k2 k3 k4 v1 v2 v3 hi
        go_wp2_with fail
        go_ret
        exact ⟨rfl, H.bel⟩

end Go.Proofs.Ytkolmpeghnkjkaa
