/- HistoryOn: the walk. -/
import Derived.Test.YtkolmpeghnkjkaaHLaw
import Derived.Test.YtkolmpeghnkjkaaHSame
import Derived.Deep.Cut
import Derived.Deep.DeepCutAuto
namespace Go.Proofs.Ytkolmpeghnkjkaa
open Go.RowKit

set_option maxRecDepth 100000 in
set_option maxHeartbeats 8000000 in
theorem historyOn_walk (A : Option Addr) (n c : Nat) (rows : List (List Int)) (a0 a1 a2 a3 : Int) (w : World) (h : IsRows 4 32 w A n c rows) (g0 : Is64 a0) (g1 : Is64 a1) (g2 : Is64 a2) (g3 : Is64 a3) :
    Calls Try.prog 12 #[.slice A n c, .agg #[.int .i64 a0, .int .i64 a1, .int .i64 a2, .int .i64 a3]] w fun e w' => e = .returned (.bool true) ∧ Below w.heap.size w w' := by
  have H := St.start w
  have PL := Lib.hid (fun W I (H : St w W I) h => played_st (w0 := w) (w := W) (I := I) A n c 60 rows H h (by omega))
  have hok := playN_ok rows (min n 60) (by omega)
  have hsn := playN_seen rows (min n 60)
  have htp := tells_played rows (min n 60)
  generalize playN rows (min n 60) = p at *
  have hle := hok.le
  have hroom := hok.room
  have hinv := hok.inv
  obtain ⟨M, hM⟩ : ∃ M, p.es.length = M := ⟨_, rfl⟩
  have hM60 : M ≤ 60 := by omega
  have CE := Lib.hid (fun W => event_any a0 a1 a2 a3 W g0 g1 g2 g3)
  have hke := evOf_chk a0 a1 a2 a3
  generalize evOf a0 a1 a2 a3 = ev at *
  have hckB : ∀ e ∈ p.es ++ [ev], e.check = 0 := fun e he => by
    rcases List.mem_append.1 he with he | he
    · exact (hsn e he).1
    · rw [List.mem_singleton.1 he]
      exact hke
  have hta : tells (p.es ++ [ev]) QM.zero [] = tells [ev] p.q p.ans := by rw [tells_app, htp]; rfl
  have CD := Lib.hid (fun W J A1 A2 c1 c2 H h1 h2 k1 k2 => do_st (w0 := w) (w := W) (I := J) (h1 := h1) (h2 := h2) p.q ev (A1 := A1) (A2 := A2) (c1 := c1) (c2 := c2) H hinv (hroom.less (by omega)) hke k1 k2)
  have hlen2 : (p.q.step ev).1.rd.length + (p.q.step ev).1.ls.length ≤ 1000 := by
    have := (QM.Room.step (n := 0) (hroom.less (by omega)) ev).1
    omega
  obtain ⟨r, hr⟩ : ∃ r, p.q.step ev = r := ⟨_, rfl⟩
  obtain ⟨q', a, chg⟩ := r
  have hrq : rq (p.es ++ [ev]) = if chg then q' else QM.zero := by
    unfold rq
    rw [hta]
    simp only [tells, hr]
    cases chg <;> rfl
  have hrf : rf (p.es ++ [ev]) = if chg then 0 else 3 := by
    unfold rf
    rw [hta]
    simp only [tells, hr]
    cases chg <;> rfl
  rw [hr] at CD hlen2
  dsimp only at CD hlen2
  obtain ⟨b0, b1, b2, b3⟩ := a
  simp only [QA.val, ansV] at CD
  obtain ⟨x0, x1, x2, x3, x4, x5⟩ := ev
  unfold Ev.val at CD CE
  dsimp only at CD CE
  have HM := Lib.hid hM
  have HB := Lib.hid hckB
  have HRQ := Lib.hid hrq
  have HRF := Lib.hid hrf
  have HSR := Lib.hid h
  clear hok hsn htp hM hle hroom hinv hke hckB hta hr hrq hrf h g0 g1 g2 g3
  go_enter Try.func12, Try.ntmps12
  go_upto_region 1 with (first
    | ((with_reducible refine here_load ?_); first | (refine wpList_load_st H rfl 30 _ rfl rfl row_Queue (by kernel_rfl) ?_) | (refine wpList_load_st H rfl 47 _ rfl rfl row_Answer (by kernel_rfl) ?_) | (refine wpList_load_st H rfl 45 _ rfl rfl row_Event (by kernel_rfl) ?_) | (refine wpList_load_st H rfl 38 _ rfl rfl row_Deed (by kernel_rfl) ?_) | (refine wpList_load1_st H rfl 3 _ rfl rfl sc_int (by rfl) ?_) | (refine wpList_load1_stG H (by rfl) 3 _ rfl rfl sc_int (by rfl) ?_) | (refine wpList_load1_st H rfl 4 _ rfl rfl sc_bool (by rfl) ?_) | (refine wpList_load1_stG H (by rfl) 4 _ rfl rfl sc_bool (by rfl) ?_) | (refine wpList_load1_st H rfl 40 _ rfl rfl sc_Errno (by rfl) ?_) | (refine wpList_load1_stG H (by rfl) 40 _ rfl rfl sc_Errno (by rfl) ?_) | (refine wpList_load1_st H rfl 23 _ rfl rfl sc_Msgs (by rfl) ?_) | (refine wpList_load1_stG H (by rfl) 23 _ rfl rfl sc_Msgs (by rfl) ?_) | (refine wpList_load1_st H rfl 24 _ rfl rfl sc_Lss (by rfl) ?_) | (refine wpList_load1_stG H (by rfl) 24 _ rfl rfl sc_Lss (by rfl) ?_))
    | ((with_reducible refine here_store ?_); first | (refine wpList_store_st H rfl 30 _ _ rfl rfl rfl (by kernel_rfl) (by rfl) (by kernel_rfl) ?_; clear H; intro wx H) | (refine wpList_store_st H rfl 47 _ _ rfl rfl rfl (by kernel_rfl) (by rfl) (by kernel_rfl) ?_; clear H; intro wx H) | (refine wpList_store_st H rfl 45 _ _ rfl rfl rfl (by kernel_rfl) (by rfl) (by kernel_rfl) ?_; clear H; intro wx H) | (refine wpList_store_st H rfl 38 _ _ rfl rfl rfl (by kernel_rfl) (by rfl) (by kernel_rfl) ?_; clear H; intro wx H) | (refine wpList_store1_st H rfl 3 _ _ rfl rfl _ rfl (by rfl) s1_int (by rfl) (by rfl) ?_; clear H; intro wx H) | (refine wpList_store1_st H rfl 4 _ _ rfl rfl _ rfl (by rfl) s1_bool (by rfl) (by rfl) ?_; clear H; intro wx H) | (refine wpList_store1_st H rfl 40 _ _ rfl rfl _ rfl (by rfl) s1_Errno (by rfl) (by rfl) ?_; clear H; intro wx H) | (refine wpList_store1_st H rfl 23 _ _ rfl rfl _ rfl (by rfl) s1_Msgs (by rfl) (by rfl) ?_; clear H; intro wx H) | (refine wpList_store1_st H rfl 24 _ _ rfl rfl _ rfl (by rfl) s1_Lss (by rfl) (by rfl) ?_; clear H; intro wx H))
    | ((with_reducible refine here_alloc ?_); first | (refine wpList_alloc_st H rfl 30 rfl _ q_zero ?_; clear H; intro gq wx H) | (refine wpList_alloc_st H rfl 47 rfl _ ans_zero ?_; clear H; intro ga wx H) | (refine wpList_alloc_st H rfl 45 rfl _ ev_zero ?_; clear H; intro ge wx H))
    | ((with_reducible refine here_box ?_); first | (refine wpList_box_st H rfl _ _ rfl _ rfl ?_; clear H; intro gb wx H)))
  go_wp2_with fail
  have hrows : IsRows 4 32 wx A n c rows := by
    obtain ⟨h1, h2, h3, h4, h5⟩ := HSR.out
    exact ⟨h1, h2, h3, (h4.below H.bel).more H.bel.size, h5⟩
  refine (PL.out _ _ H hrows).mono ?_
  clear H PL hrows
  rintro ed wx ⟨B1, d1, B2, d2, Ae, ce, Aa, ca, rfl, k1, k2, k3, k4, H⟩
  rw [HM.out] at k3 ⊢
  go_upto_region 2 with (first
    | ((with_reducible refine here_load ?_); first | (refine wpList_load_st H rfl 30 _ rfl rfl row_Queue (by kernel_rfl) ?_) | (refine wpList_load_st H rfl 47 _ rfl rfl row_Answer (by kernel_rfl) ?_) | (refine wpList_load_st H rfl 45 _ rfl rfl row_Event (by kernel_rfl) ?_) | (refine wpList_load_st H rfl 38 _ rfl rfl row_Deed (by kernel_rfl) ?_) | (refine wpList_load1_st H rfl 3 _ rfl rfl sc_int (by rfl) ?_) | (refine wpList_load1_stG H (by rfl) 3 _ rfl rfl sc_int (by rfl) ?_) | (refine wpList_load1_st H rfl 4 _ rfl rfl sc_bool (by rfl) ?_) | (refine wpList_load1_stG H (by rfl) 4 _ rfl rfl sc_bool (by rfl) ?_) | (refine wpList_load1_st H rfl 40 _ rfl rfl sc_Errno (by rfl) ?_) | (refine wpList_load1_stG H (by rfl) 40 _ rfl rfl sc_Errno (by rfl) ?_) | (refine wpList_load1_st H rfl 23 _ rfl rfl sc_Msgs (by rfl) ?_) | (refine wpList_load1_stG H (by rfl) 23 _ rfl rfl sc_Msgs (by rfl) ?_) | (refine wpList_load1_st H rfl 24 _ rfl rfl sc_Lss (by rfl) ?_) | (refine wpList_load1_stG H (by rfl) 24 _ rfl rfl sc_Lss (by rfl) ?_))
    | ((with_reducible refine here_store ?_); first | (refine wpList_store_st H rfl 30 _ _ rfl rfl rfl (by kernel_rfl) (by rfl) (by kernel_rfl) ?_; clear H; intro wx H) | (refine wpList_store_st H rfl 47 _ _ rfl rfl rfl (by kernel_rfl) (by rfl) (by kernel_rfl) ?_; clear H; intro wx H) | (refine wpList_store_st H rfl 45 _ _ rfl rfl rfl (by kernel_rfl) (by rfl) (by kernel_rfl) ?_; clear H; intro wx H) | (refine wpList_store_st H rfl 38 _ _ rfl rfl rfl (by kernel_rfl) (by rfl) (by kernel_rfl) ?_; clear H; intro wx H) | (refine wpList_store1_st H rfl 3 _ _ rfl rfl _ rfl (by rfl) s1_int (by rfl) (by rfl) ?_; clear H; intro wx H) | (refine wpList_store1_st H rfl 4 _ _ rfl rfl _ rfl (by rfl) s1_bool (by rfl) (by rfl) ?_; clear H; intro wx H) | (refine wpList_store1_st H rfl 40 _ _ rfl rfl _ rfl (by rfl) s1_Errno (by rfl) (by rfl) ?_; clear H; intro wx H) | (refine wpList_store1_st H rfl 23 _ _ rfl rfl _ rfl (by rfl) s1_Msgs (by rfl) (by rfl) ?_; clear H; intro wx H) | (refine wpList_store1_st H rfl 24 _ _ rfl rfl _ rfl (by rfl) s1_Lss (by rfl) (by rfl) ?_; clear H; intro wx H))
    | ((with_reducible refine here_alloc ?_); first | (refine wpList_alloc_st H rfl 30 rfl _ q_zero ?_; clear H; intro gq wx H) | (refine wpList_alloc_st H rfl 47 rfl _ ans_zero ?_; clear H; intro ga wx H) | (refine wpList_alloc_st H rfl 45 rfl _ ev_zero ?_; clear H; intro ge wx H))
    | ((with_reducible refine here_box ?_); first | (refine wpList_box_st H rfl _ _ rfl _ rfl ?_; clear H; intro gb wx H)))
  go_wp2_with (first
    | ((with_reducible refine here_load ?_); first | (refine wpList_load_st H rfl 30 _ rfl rfl row_Queue (by kernel_rfl) ?_) | (refine wpList_load_st H rfl 47 _ rfl rfl row_Answer (by kernel_rfl) ?_) | (refine wpList_load_st H rfl 45 _ rfl rfl row_Event (by kernel_rfl) ?_) | (refine wpList_load_st H rfl 38 _ rfl rfl row_Deed (by kernel_rfl) ?_) | (refine wpList_load1_st H rfl 3 _ rfl rfl sc_int (by rfl) ?_) | (refine wpList_load1_stG H (by rfl) 3 _ rfl rfl sc_int (by rfl) ?_) | (refine wpList_load1_st H rfl 4 _ rfl rfl sc_bool (by rfl) ?_) | (refine wpList_load1_stG H (by rfl) 4 _ rfl rfl sc_bool (by rfl) ?_) | (refine wpList_load1_st H rfl 40 _ rfl rfl sc_Errno (by rfl) ?_) | (refine wpList_load1_stG H (by rfl) 40 _ rfl rfl sc_Errno (by rfl) ?_) | (refine wpList_load1_st H rfl 23 _ rfl rfl sc_Msgs (by rfl) ?_) | (refine wpList_load1_stG H (by rfl) 23 _ rfl rfl sc_Msgs (by rfl) ?_) | (refine wpList_load1_st H rfl 24 _ rfl rfl sc_Lss (by rfl) ?_) | (refine wpList_load1_stG H (by rfl) 24 _ rfl rfl sc_Lss (by rfl) ?_))
    | ((with_reducible refine here_store ?_); first | (refine wpList_store_st H rfl 30 _ _ rfl rfl rfl (by kernel_rfl) (by rfl) (by kernel_rfl) ?_; clear H; intro wx H) | (refine wpList_store_st H rfl 47 _ _ rfl rfl rfl (by kernel_rfl) (by rfl) (by kernel_rfl) ?_; clear H; intro wx H) | (refine wpList_store_st H rfl 45 _ _ rfl rfl rfl (by kernel_rfl) (by rfl) (by kernel_rfl) ?_; clear H; intro wx H) | (refine wpList_store_st H rfl 38 _ _ rfl rfl rfl (by kernel_rfl) (by rfl) (by kernel_rfl) ?_; clear H; intro wx H) | (refine wpList_store1_st H rfl 3 _ _ rfl rfl _ rfl (by rfl) s1_int (by rfl) (by rfl) ?_; clear H; intro wx H) | (refine wpList_store1_st H rfl 4 _ _ rfl rfl _ rfl (by rfl) s1_bool (by rfl) (by rfl) ?_; clear H; intro wx H) | (refine wpList_store1_st H rfl 40 _ _ rfl rfl _ rfl (by rfl) s1_Errno (by rfl) (by rfl) ?_; clear H; intro wx H) | (refine wpList_store1_st H rfl 23 _ _ rfl rfl _ rfl (by rfl) s1_Msgs (by rfl) (by rfl) ?_; clear H; intro wx H) | (refine wpList_store1_st H rfl 24 _ _ rfl rfl _ rfl (by rfl) s1_Lss (by rfl) (by rfl) ?_; clear H; intro wx H))
    | ((with_reducible refine here_alloc ?_); first | (refine wpList_alloc_st H rfl 30 rfl _ q_zero ?_; clear H; intro gq wx H) | (refine wpList_alloc_st H rfl 47 rfl _ ans_zero ?_; clear H; intro ga wx H) | (refine wpList_alloc_st H rfl 45 rfl _ ev_zero ?_; clear H; intro ge wx H))
    | ((with_reducible refine here_box ?_); first | (refine wpList_box_st H rfl _ _ rfl _ rfl ?_; clear H; intro gb wx H)))
  refine (CE.out _).mono ?_
  clear CE
  rintro ed wy ⟨rfl, bb⟩
  replace H := H.below bb
  clear bb
  go_upto_region 3 with (first
    | ((with_reducible refine here_load ?_); first | (refine wpList_load_st H rfl 30 _ rfl rfl row_Queue (by kernel_rfl) ?_) | (refine wpList_load_st H rfl 47 _ rfl rfl row_Answer (by kernel_rfl) ?_) | (refine wpList_load_st H rfl 45 _ rfl rfl row_Event (by kernel_rfl) ?_) | (refine wpList_load_st H rfl 38 _ rfl rfl row_Deed (by kernel_rfl) ?_) | (refine wpList_load1_st H rfl 3 _ rfl rfl sc_int (by rfl) ?_) | (refine wpList_load1_stG H (by rfl) 3 _ rfl rfl sc_int (by rfl) ?_) | (refine wpList_load1_st H rfl 4 _ rfl rfl sc_bool (by rfl) ?_) | (refine wpList_load1_stG H (by rfl) 4 _ rfl rfl sc_bool (by rfl) ?_) | (refine wpList_load1_st H rfl 40 _ rfl rfl sc_Errno (by rfl) ?_) | (refine wpList_load1_stG H (by rfl) 40 _ rfl rfl sc_Errno (by rfl) ?_) | (refine wpList_load1_st H rfl 23 _ rfl rfl sc_Msgs (by rfl) ?_) | (refine wpList_load1_stG H (by rfl) 23 _ rfl rfl sc_Msgs (by rfl) ?_) | (refine wpList_load1_st H rfl 24 _ rfl rfl sc_Lss (by rfl) ?_) | (refine wpList_load1_stG H (by rfl) 24 _ rfl rfl sc_Lss (by rfl) ?_))
    | ((with_reducible refine here_store ?_); first | (refine wpList_store_st H rfl 30 _ _ rfl rfl rfl (by kernel_rfl) (by rfl) (by kernel_rfl) ?_; clear H; intro wx H) | (refine wpList_store_st H rfl 47 _ _ rfl rfl rfl (by kernel_rfl) (by rfl) (by kernel_rfl) ?_; clear H; intro wx H) | (refine wpList_store_st H rfl 45 _ _ rfl rfl rfl (by kernel_rfl) (by rfl) (by kernel_rfl) ?_; clear H; intro wx H) | (refine wpList_store_st H rfl 38 _ _ rfl rfl rfl (by kernel_rfl) (by rfl) (by kernel_rfl) ?_; clear H; intro wx H) | (refine wpList_store1_st H rfl 3 _ _ rfl rfl _ rfl (by rfl) s1_int (by rfl) (by rfl) ?_; clear H; intro wx H) | (refine wpList_store1_st H rfl 4 _ _ rfl rfl _ rfl (by rfl) s1_bool (by rfl) (by rfl) ?_; clear H; intro wx H) | (refine wpList_store1_st H rfl 40 _ _ rfl rfl _ rfl (by rfl) s1_Errno (by rfl) (by rfl) ?_; clear H; intro wx H) | (refine wpList_store1_st H rfl 23 _ _ rfl rfl _ rfl (by rfl) s1_Msgs (by rfl) (by rfl) ?_; clear H; intro wx H) | (refine wpList_store1_st H rfl 24 _ _ rfl rfl _ rfl (by rfl) s1_Lss (by rfl) (by rfl) ?_; clear H; intro wx H))
    | ((with_reducible refine here_alloc ?_); first | (refine wpList_alloc_st H rfl 30 rfl _ q_zero ?_; clear H; intro gq wx H) | (refine wpList_alloc_st H rfl 47 rfl _ ans_zero ?_; clear H; intro ga wx H) | (refine wpList_alloc_st H rfl 45 rfl _ ev_zero ?_; clear H; intro ge wx H))
    | ((with_reducible refine here_box ?_); first | (refine wpList_box_st H rfl _ _ rfl _ rfl ?_; clear H; intro gb wx H)))
  go_wp2_with (first
    | ((with_reducible refine here_load ?_); first | (refine wpList_load_st H rfl 30 _ rfl rfl row_Queue (by kernel_rfl) ?_) | (refine wpList_load_st H rfl 47 _ rfl rfl row_Answer (by kernel_rfl) ?_) | (refine wpList_load_st H rfl 45 _ rfl rfl row_Event (by kernel_rfl) ?_) | (refine wpList_load_st H rfl 38 _ rfl rfl row_Deed (by kernel_rfl) ?_) | (refine wpList_load1_st H rfl 3 _ rfl rfl sc_int (by rfl) ?_) | (refine wpList_load1_stG H (by rfl) 3 _ rfl rfl sc_int (by rfl) ?_) | (refine wpList_load1_st H rfl 4 _ rfl rfl sc_bool (by rfl) ?_) | (refine wpList_load1_stG H (by rfl) 4 _ rfl rfl sc_bool (by rfl) ?_) | (refine wpList_load1_st H rfl 40 _ rfl rfl sc_Errno (by rfl) ?_) | (refine wpList_load1_stG H (by rfl) 40 _ rfl rfl sc_Errno (by rfl) ?_) | (refine wpList_load1_st H rfl 23 _ rfl rfl sc_Msgs (by rfl) ?_) | (refine wpList_load1_stG H (by rfl) 23 _ rfl rfl sc_Msgs (by rfl) ?_) | (refine wpList_load1_st H rfl 24 _ rfl rfl sc_Lss (by rfl) ?_) | (refine wpList_load1_stG H (by rfl) 24 _ rfl rfl sc_Lss (by rfl) ?_))
    | ((with_reducible refine here_store ?_); first | (refine wpList_store_st H rfl 30 _ _ rfl rfl rfl (by kernel_rfl) (by rfl) (by kernel_rfl) ?_; clear H; intro wx H) | (refine wpList_store_st H rfl 47 _ _ rfl rfl rfl (by kernel_rfl) (by rfl) (by kernel_rfl) ?_; clear H; intro wx H) | (refine wpList_store_st H rfl 45 _ _ rfl rfl rfl (by kernel_rfl) (by rfl) (by kernel_rfl) ?_; clear H; intro wx H) | (refine wpList_store_st H rfl 38 _ _ rfl rfl rfl (by kernel_rfl) (by rfl) (by kernel_rfl) ?_; clear H; intro wx H) | (refine wpList_store1_st H rfl 3 _ _ rfl rfl _ rfl (by rfl) s1_int (by rfl) (by rfl) ?_; clear H; intro wx H) | (refine wpList_store1_st H rfl 4 _ _ rfl rfl _ rfl (by rfl) s1_bool (by rfl) (by rfl) ?_; clear H; intro wx H) | (refine wpList_store1_st H rfl 40 _ _ rfl rfl _ rfl (by rfl) s1_Errno (by rfl) (by rfl) ?_; clear H; intro wx H) | (refine wpList_store1_st H rfl 23 _ _ rfl rfl _ rfl (by rfl) s1_Msgs (by rfl) (by rfl) ?_; clear H; intro wx H) | (refine wpList_store1_st H rfl 24 _ _ rfl rfl _ rfl (by rfl) s1_Lss (by rfl) (by rfl) ?_; clear H; intro wx H))
    | ((with_reducible refine here_alloc ?_); first | (refine wpList_alloc_st H rfl 30 rfl _ q_zero ?_; clear H; intro gq wx H) | (refine wpList_alloc_st H rfl 47 rfl _ ans_zero ?_; clear H; intro ga wx H) | (refine wpList_alloc_st H rfl 45 rfl _ ev_zero ?_; clear H; intro ge wx H))
    | ((with_reducible refine here_box ?_); first | (refine wpList_box_st H rfl _ _ rfl _ rfl ?_; clear H; intro gb wx H)))
  refine (CD.out _ _ _ _ _ _ H inferInstance inferInstance k1 k2).mono ?_
  clear CD H
  rintro ed wy ⟨F1, f1, F2, f2, rfl, u1, u2, H⟩
  go_upto_region 4 with (first
    | ((with_reducible refine here_load ?_); first | (refine wpList_load_st H rfl 30 _ rfl rfl row_Queue (by kernel_rfl) ?_) | (refine wpList_load_st H rfl 47 _ rfl rfl row_Answer (by kernel_rfl) ?_) | (refine wpList_load_st H rfl 45 _ rfl rfl row_Event (by kernel_rfl) ?_) | (refine wpList_load_st H rfl 38 _ rfl rfl row_Deed (by kernel_rfl) ?_) | (refine wpList_load1_st H rfl 3 _ rfl rfl sc_int (by rfl) ?_) | (refine wpList_load1_stG H (by rfl) 3 _ rfl rfl sc_int (by rfl) ?_) | (refine wpList_load1_st H rfl 4 _ rfl rfl sc_bool (by rfl) ?_) | (refine wpList_load1_stG H (by rfl) 4 _ rfl rfl sc_bool (by rfl) ?_) | (refine wpList_load1_st H rfl 40 _ rfl rfl sc_Errno (by rfl) ?_) | (refine wpList_load1_stG H (by rfl) 40 _ rfl rfl sc_Errno (by rfl) ?_) | (refine wpList_load1_st H rfl 23 _ rfl rfl sc_Msgs (by rfl) ?_) | (refine wpList_load1_stG H (by rfl) 23 _ rfl rfl sc_Msgs (by rfl) ?_) | (refine wpList_load1_st H rfl 24 _ rfl rfl sc_Lss (by rfl) ?_) | (refine wpList_load1_stG H (by rfl) 24 _ rfl rfl sc_Lss (by rfl) ?_))
    | ((with_reducible refine here_store ?_); first | (refine wpList_store_st H rfl 30 _ _ rfl rfl rfl (by kernel_rfl) (by rfl) (by kernel_rfl) ?_; clear H; intro wx H) | (refine wpList_store_st H rfl 47 _ _ rfl rfl rfl (by kernel_rfl) (by rfl) (by kernel_rfl) ?_; clear H; intro wx H) | (refine wpList_store_st H rfl 45 _ _ rfl rfl rfl (by kernel_rfl) (by rfl) (by kernel_rfl) ?_; clear H; intro wx H) | (refine wpList_store_st H rfl 38 _ _ rfl rfl rfl (by kernel_rfl) (by rfl) (by kernel_rfl) ?_; clear H; intro wx H) | (refine wpList_store1_st H rfl 3 _ _ rfl rfl _ rfl (by rfl) s1_int (by rfl) (by rfl) ?_; clear H; intro wx H) | (refine wpList_store1_st H rfl 4 _ _ rfl rfl _ rfl (by rfl) s1_bool (by rfl) (by rfl) ?_; clear H; intro wx H) | (refine wpList_store1_st H rfl 40 _ _ rfl rfl _ rfl (by rfl) s1_Errno (by rfl) (by rfl) ?_; clear H; intro wx H) | (refine wpList_store1_st H rfl 23 _ _ rfl rfl _ rfl (by rfl) s1_Msgs (by rfl) (by rfl) ?_; clear H; intro wx H) | (refine wpList_store1_st H rfl 24 _ _ rfl rfl _ rfl (by rfl) s1_Lss (by rfl) (by rfl) ?_; clear H; intro wx H))
    | ((with_reducible refine here_alloc ?_); first | (refine wpList_alloc_st H rfl 30 rfl _ q_zero ?_; clear H; intro gq2 wx H) | (refine wpList_alloc_st H rfl 47 rfl _ ans_zero ?_; clear H; intro ga2 wx H) | (refine wpList_alloc_st H rfl 45 rfl _ ev_zero ?_; clear H; intro ge2 wx H))
    | ((with_reducible refine here_box ?_); first | (refine wpList_box_st H rfl _ _ rfl _ rfl ?_; clear H; intro gb2 wx H)))
  replace H : St w wx [.bl gq2 30 (qArr q' F1 f1 F2 f2), .bl ga2 47 #[.int .i64 b0, .int .i64 b1, .int .i64 b2, .int .i64 b3], .bl ge 45 #[.int .i64 x0, .int .i64 x1, .int .i64 x2, .int .i64 x3, .int .i64 x4, .int .i64 x5], rdIt q' F1, lsIt q' F2, evIt Ae p.es] := H.subm _
  (try simp only [Act.put, List.setIfInBounds_toArray, List.set_cons_zero, List.set_cons_succ])
  go_cut [14, 15] (fun s14 s15 wx => ∃ gy G1 y1 G2 y2, s14 = .pointer (some ⟨gy, 0, none⟩) ∧ s15 = .int .i64 (rf (p.es ++ [⟨x0, x1, x2, x3, x4, x5⟩])) ∧ (rq (p.es ++ [⟨x0, x1, x2, x3, x4, x5⟩])).rd.length ≤ y1 ∧ (rq (p.es ++ [⟨x0, x1, x2, x3, x4, x5⟩])).ls.length ≤ y2 ∧
    St w wx [.bl gy 30 (qArr (rq (p.es ++ [⟨x0, x1, x2, x3, x4, x5⟩])) G1 y1 G2 y2), rdIt (rq (p.es ++ [⟨x0, x1, x2, x3, x4, x5⟩])) G1, lsIt (rq (p.es ++ [⟨x0, x1, x2, x3, x4, x5⟩])) G2, .bl gq2 30 (qArr q' F1 f1 F2 f2), .bl ga2 47 #[.int .i64 b0, .int .i64 b1, .int .i64 b2, .int .i64 b3], rdIt q' F1, lsIt q' F2])
  case first =>
    refine startS H (by kernel_rfl) (fun HS => ?_)
    replace H := HS
    replace H := H.nilOwn 45 6
    refine takeMove (i := 0) rfl rfl _ (by rfl) (by kernel_rfl) (by kernel_rfl) (by kernel_rfl) (fun _ _ _ _ h => h) (by rfl) HS ?_
    (try simp only [Act.put, List.setIfInBounds_toArray, List.set_cons_zero, List.set_cons_succ])
    refine takeRow_st (i := 2) 45 _ rfl rfl rfl row_Event (by kernel_rfl) (by kernel_rfl) (by kernel_rfl) (by kernel_rfl) (fun _ _ _ _ h => h) (by rfl) HS ?_
    (try simp only [Act.put, List.setIfInBounds_toArray, List.set_cons_zero, List.set_cons_succ])
    refine branchH [1, 3, 9] (by kernel_rfl) (by kernel_rfl) (AllStep.cons ?_ (AllStep.cons ?_ (AllStep.cons ?_ AllStep.nil)))
    · refine stepH_do (i := 1) rfl (by rfl) ?_
      refine wp_append_st (v := .slice none 0 0) H _ _ 31 rfl rfl rfl Try.underlying31 _ _ ev_info (by rfl) (by omega) (H.evReads (es := p.es) HM.out) (qevCells_one _) (by simp only [maxLen]; omega) (by omega) ?_
      clear H
      intro A7 c7 wx hc7 hc7' H
      simp only [Nat.zero_add, List.nil_append] at H hc7 ⊢
      replace HS := HS.of H
      refine ⟨HS, ?_⟩
      (try simp only [Act.put, List.setIfInBounds_toArray, List.set_cons_zero, List.set_cons_succ])
      refine branchH [3, 9] (by kernel_rfl) (by kernel_rfl) (AllStep.cons ?_ (AllStep.cons ?_ AllStep.nil))
      · refine stepH_do (i := 3) rfl (by rfl) ?_
        refine wp_buildSlice1_st H 31 _ rfl 45 Try.underlying31 _ rfl _ ev_info2 (by rfl) (by rfl) ?_
        clear H
        intro gs wx H
        replace HS := HS.of H
        refine ⟨HS, ?_⟩
        (try simp only [Act.put, List.setIfInBounds_toArray, List.set_cons_zero, List.set_cons_succ])
        refine branchH [4, 9] (by kernel_rfl) (by kernel_rfl) (AllStep.cons ?_ (AllStep.cons ?_ AllStep.nil))
        · refine stepH_do (i := 4) rfl (by rfl) ?_
          refine wp_appendB_st (v := .slice A7 M c7) H _ _ 31 rfl rfl rfl Try.underlying31 _ _ ev_info (by rfl) (by rfl) (by rfl) (by kernel_rfl) (by simp only [maxLen]; omega) (by omega) ?_
          clear H
          intro A8 c8 wx hc8 hc8' H
          rw [evs_snoc] at H
          replace HS := HS.of H
          refine ⟨HS, ?_⟩
          (try simp only [Act.put, List.setIfInBounds_toArray, List.set_cons_zero, List.set_cons_succ])
          refine branchH [5, 9] (by kernel_rfl) (by kernel_rfl) (AllStep.cons ?_ (AllStep.cons ?_ AllStep.nil))
          · refine stepH_do (i := 5) rfl (by rfl) ?_
            replace H := H.freezeEvAt (A := A8) (c := c8) (n := M + 1) (es := p.es ++ [⟨x0, x1, x2, x3, x4, x5⟩]) (by rw [List.length_append, HM.out]; rfl)
            refine wp_call_st rfl Try.func22 (by kernel_rfl) (by kernel_rfl) _ ?_ ((replay_any (p.es ++ [⟨x0, x1, x2, x3, x4, x5⟩]) A8 (M + 1) c8 (by rw [List.length_append, HM.out]; rfl) H HB.out (by omega) hc8).mono ?_)
            · rfl
            rintro ed wy ⟨G1, y1, G2, y2, rfl, v1, v2, H⟩
            replace HS := HS.of H
            refine ⟨_, rfl, HS, ?_⟩
            (try simp only [Act.put, List.setIfInBounds_toArray, List.set_cons_zero, List.set_cons_succ])
            refine takeMove (i := 6) rfl rfl _ (by rfl) (by kernel_rfl) (by kernel_rfl) (by kernel_rfl) (fun _ _ _ _ h => h) (by rfl) HS ?_
            (try simp only [Act.put, List.setIfInBounds_toArray, List.set_cons_zero, List.set_cons_succ])
            refine takeExtract (i := 7) rfl rfl _ _ (by rfl) (by rfl) (by kernel_rfl) (by kernel_rfl) (by kernel_rfl) (fun _ _ _ _ h => h) (by rfl) HS ?_
            (try simp only [Act.put, List.setIfInBounds_toArray, List.set_cons_zero, List.set_cons_succ])
            refine takeExtract (i := 8) rfl rfl _ _ (by rfl) (by rfl) (by kernel_rfl) (by kernel_rfl) (by kernel_rfl) (fun _ _ _ _ h => h) (by rfl) HS ?_
            (try simp only [Act.put, List.setIfInBounds_toArray, List.set_cons_zero, List.set_cons_succ])
            refine branchH [9] (by kernel_rfl) (by kernel_rfl) (AllStep.cons ?_ AllStep.nil)
            refine stepH_do (i := 9) rfl (by rfl) ?_
            refine wp_alloc_st H 30 rfl _ q_zero ?_
            clear H
            intro gq9 wx H
            replace HS := HS.of H
            refine ⟨HS, ?_⟩
            (try simp only [Act.put, List.setIfInBounds_toArray, List.set_cons_zero, List.set_cons_succ])
            refine branchH [10] (by kernel_rfl) (by kernel_rfl) (AllStep.cons ?_ AllStep.nil)
            refine stepH_do (i := 10) rfl (by rfl) ?_
            refine wp_store_st H 30 _ _ rfl rfl rfl (by kernel_rfl) (by rfl) (by kernel_rfl) ?_
            clear H
            intro wx H
            replace HS := HS.of H
            refine ⟨HS, ?_⟩
            (try simp only [Act.put])
            refine takeAssign (i := 11) rfl rfl _ (by rfl) (by kernel_rfl) (by kernel_rfl) (by kernel_rfl) (fun _ _ _ _ h => h) (by rfl) HS ?_
            (try simp only [Act.put, List.setIfInBounds_toArray, List.set_cons_zero, List.set_cons_succ])
            refine doneH (by kernel_rfl) ?_
            go_wp2_with fail
            go_meet
            exact ⟨_, G1, y1, G2, y2, rfl, rfl, v1, v2, H.subm _⟩
          · refine stepH_do (i := 9) rfl (by rfl) ?_
            refine wp_alloc_st H 30 rfl _ q_zero ?_
            clear H
            intro gq9 wx H
            replace HS := HS.of H
            refine ⟨HS, ?_⟩
            (try simp only [Act.put, List.setIfInBounds_toArray, List.set_cons_zero, List.set_cons_succ])
            refine branchH [5] (by kernel_rfl) (by kernel_rfl) (AllStep.cons ?_ AllStep.nil)
            refine stepH_do (i := 5) rfl (by rfl) ?_
            replace H := H.freezeEvAt (A := A8) (c := c8) (n := M + 1) (es := p.es ++ [⟨x0, x1, x2, x3, x4, x5⟩]) (by rw [List.length_append, HM.out]; rfl)
            refine wp_call_st rfl Try.func22 (by kernel_rfl) (by kernel_rfl) _ ?_ ((replay_any (p.es ++ [⟨x0, x1, x2, x3, x4, x5⟩]) A8 (M + 1) c8 (by rw [List.length_append, HM.out]; rfl) H HB.out (by omega) hc8).mono ?_)
            · rfl
            rintro ed wy ⟨G1, y1, G2, y2, rfl, v1, v2, H⟩
            replace HS := HS.of H
            refine ⟨_, rfl, HS, ?_⟩
            (try simp only [Act.put, List.setIfInBounds_toArray, List.set_cons_zero, List.set_cons_succ])
            refine takeMove (i := 6) rfl rfl _ (by rfl) (by kernel_rfl) (by kernel_rfl) (by kernel_rfl) (fun _ _ _ _ h => h) (by rfl) HS ?_
            (try simp only [Act.put, List.setIfInBounds_toArray, List.set_cons_zero, List.set_cons_succ])
            refine takeExtract (i := 7) rfl rfl _ _ (by rfl) (by rfl) (by kernel_rfl) (by kernel_rfl) (by kernel_rfl) (fun _ _ _ _ h => h) (by rfl) HS ?_
            (try simp only [Act.put, List.setIfInBounds_toArray, List.set_cons_zero, List.set_cons_succ])
            refine takeExtract (i := 8) rfl rfl _ _ (by rfl) (by rfl) (by kernel_rfl) (by kernel_rfl) (by kernel_rfl) (fun _ _ _ _ h => h) (by rfl) HS ?_
            (try simp only [Act.put, List.setIfInBounds_toArray, List.set_cons_zero, List.set_cons_succ])
            refine branchH [10] (by kernel_rfl) (by kernel_rfl) (AllStep.cons ?_ AllStep.nil)
            refine stepH_do (i := 10) rfl (by rfl) ?_
            refine wp_store_st H 30 _ _ rfl rfl rfl (by kernel_rfl) (by rfl) (by kernel_rfl) ?_
            clear H
            intro wx H
            replace HS := HS.of H
            refine ⟨HS, ?_⟩
            (try simp only [Act.put])
            refine takeAssign (i := 11) rfl rfl _ (by rfl) (by kernel_rfl) (by kernel_rfl) (by kernel_rfl) (fun _ _ _ _ h => h) (by rfl) HS ?_
            (try simp only [Act.put, List.setIfInBounds_toArray, List.set_cons_zero, List.set_cons_succ])
            refine doneH (by kernel_rfl) ?_
            go_wp2_with fail
            go_meet
            exact ⟨_, G1, y1, G2, y2, rfl, rfl, v1, v2, H.subm _⟩
        · refine stepH_do (i := 9) rfl (by rfl) ?_
          refine wp_alloc_st H 30 rfl _ q_zero ?_
          clear H
          intro gq9 wx H
          replace HS := HS.of H
          refine ⟨HS, ?_⟩
          (try simp only [Act.put, List.setIfInBounds_toArray, List.set_cons_zero, List.set_cons_succ])
          refine branchH [4] (by kernel_rfl) (by kernel_rfl) (AllStep.cons ?_ AllStep.nil)
          refine stepH_do (i := 4) rfl (by rfl) ?_
          refine wp_appendB_st (v := .slice A7 M c7) H _ _ 31 rfl rfl rfl Try.underlying31 _ _ ev_info (by rfl) (by rfl) (by rfl) (by kernel_rfl) (by simp only [maxLen]; omega) (by omega) ?_
          clear H
          intro A8 c8 wx hc8 hc8' H
          rw [evs_snoc] at H
          replace HS := HS.of H
          refine ⟨HS, ?_⟩
          (try simp only [Act.put, List.setIfInBounds_toArray, List.set_cons_zero, List.set_cons_succ])
          refine branchH [5] (by kernel_rfl) (by kernel_rfl) (AllStep.cons ?_ AllStep.nil)
          refine stepH_do (i := 5) rfl (by rfl) ?_
          replace H := H.freezeEvAt (A := A8) (c := c8) (n := M + 1) (es := p.es ++ [⟨x0, x1, x2, x3, x4, x5⟩]) (by rw [List.length_append, HM.out]; rfl)
          refine wp_call_st rfl Try.func22 (by kernel_rfl) (by kernel_rfl) _ ?_ ((replay_any (p.es ++ [⟨x0, x1, x2, x3, x4, x5⟩]) A8 (M + 1) c8 (by rw [List.length_append, HM.out]; rfl) H HB.out (by omega) hc8).mono ?_)
          · rfl
          rintro ed wy ⟨G1, y1, G2, y2, rfl, v1, v2, H⟩
          replace HS := HS.of H
          refine ⟨_, rfl, HS, ?_⟩
          (try simp only [Act.put, List.setIfInBounds_toArray, List.set_cons_zero, List.set_cons_succ])
          refine takeMove (i := 6) rfl rfl _ (by rfl) (by kernel_rfl) (by kernel_rfl) (by kernel_rfl) (fun _ _ _ _ h => h) (by rfl) HS ?_
          (try simp only [Act.put, List.setIfInBounds_toArray, List.set_cons_zero, List.set_cons_succ])
          refine takeExtract (i := 7) rfl rfl _ _ (by rfl) (by rfl) (by kernel_rfl) (by kernel_rfl) (by kernel_rfl) (fun _ _ _ _ h => h) (by rfl) HS ?_
          (try simp only [Act.put, List.setIfInBounds_toArray, List.set_cons_zero, List.set_cons_succ])
          refine takeExtract (i := 8) rfl rfl _ _ (by rfl) (by rfl) (by kernel_rfl) (by kernel_rfl) (by kernel_rfl) (fun _ _ _ _ h => h) (by rfl) HS ?_
          (try simp only [Act.put, List.setIfInBounds_toArray, List.set_cons_zero, List.set_cons_succ])
          refine branchH [10] (by kernel_rfl) (by kernel_rfl) (AllStep.cons ?_ AllStep.nil)
          refine stepH_do (i := 10) rfl (by rfl) ?_
          refine wp_store_st H 30 _ _ rfl rfl rfl (by kernel_rfl) (by rfl) (by kernel_rfl) ?_
          clear H
          intro wx H
          replace HS := HS.of H
          refine ⟨HS, ?_⟩
          (try simp only [Act.put])
          refine takeAssign (i := 11) rfl rfl _ (by rfl) (by kernel_rfl) (by kernel_rfl) (by kernel_rfl) (fun _ _ _ _ h => h) (by rfl) HS ?_
          (try simp only [Act.put, List.setIfInBounds_toArray, List.set_cons_zero, List.set_cons_succ])
          refine doneH (by kernel_rfl) ?_
          go_wp2_with fail
          go_meet
          exact ⟨_, G1, y1, G2, y2, rfl, rfl, v1, v2, H.subm _⟩
      · refine stepH_do (i := 9) rfl (by rfl) ?_
        refine wp_alloc_st H 30 rfl _ q_zero ?_
        clear H
        intro gq9 wx H
        replace HS := HS.of H
        refine ⟨HS, ?_⟩
        (try simp only [Act.put, List.setIfInBounds_toArray, List.set_cons_zero, List.set_cons_succ])
        refine branchH [3] (by kernel_rfl) (by kernel_rfl) (AllStep.cons ?_ AllStep.nil)
        refine stepH_do (i := 3) rfl (by rfl) ?_
        refine wp_buildSlice1_st H 31 _ rfl 45 Try.underlying31 _ rfl _ ev_info2 (by rfl) (by rfl) ?_
        clear H
        intro gs wx H
        replace HS := HS.of H
        refine ⟨HS, ?_⟩
        (try simp only [Act.put, List.setIfInBounds_toArray, List.set_cons_zero, List.set_cons_succ])
        refine branchH [4] (by kernel_rfl) (by kernel_rfl) (AllStep.cons ?_ AllStep.nil)
        refine stepH_do (i := 4) rfl (by rfl) ?_
        refine wp_appendB_st (v := .slice A7 M c7) H _ _ 31 rfl rfl rfl Try.underlying31 _ _ ev_info (by rfl) (by rfl) (by rfl) (by kernel_rfl) (by simp only [maxLen]; omega) (by omega) ?_
        clear H
        intro A8 c8 wx hc8 hc8' H
        rw [evs_snoc] at H
        replace HS := HS.of H
        refine ⟨HS, ?_⟩
        (try simp only [Act.put, List.setIfInBounds_toArray, List.set_cons_zero, List.set_cons_succ])
        refine branchH [5] (by kernel_rfl) (by kernel_rfl) (AllStep.cons ?_ AllStep.nil)
        refine stepH_do (i := 5) rfl (by rfl) ?_
        replace H := H.freezeEvAt (A := A8) (c := c8) (n := M + 1) (es := p.es ++ [⟨x0, x1, x2, x3, x4, x5⟩]) (by rw [List.length_append, HM.out]; rfl)
        refine wp_call_st rfl Try.func22 (by kernel_rfl) (by kernel_rfl) _ ?_ ((replay_any (p.es ++ [⟨x0, x1, x2, x3, x4, x5⟩]) A8 (M + 1) c8 (by rw [List.length_append, HM.out]; rfl) H HB.out (by omega) hc8).mono ?_)
        · rfl
        rintro ed wy ⟨G1, y1, G2, y2, rfl, v1, v2, H⟩
        replace HS := HS.of H
        refine ⟨_, rfl, HS, ?_⟩
        (try simp only [Act.put, List.setIfInBounds_toArray, List.set_cons_zero, List.set_cons_succ])
        refine takeMove (i := 6) rfl rfl _ (by rfl) (by kernel_rfl) (by kernel_rfl) (by kernel_rfl) (fun _ _ _ _ h => h) (by rfl) HS ?_
        (try simp only [Act.put, List.setIfInBounds_toArray, List.set_cons_zero, List.set_cons_succ])
        refine takeExtract (i := 7) rfl rfl _ _ (by rfl) (by rfl) (by kernel_rfl) (by kernel_rfl) (by kernel_rfl) (fun _ _ _ _ h => h) (by rfl) HS ?_
        (try simp only [Act.put, List.setIfInBounds_toArray, List.set_cons_zero, List.set_cons_succ])
        refine takeExtract (i := 8) rfl rfl _ _ (by rfl) (by rfl) (by kernel_rfl) (by kernel_rfl) (by kernel_rfl) (fun _ _ _ _ h => h) (by rfl) HS ?_
        (try simp only [Act.put, List.setIfInBounds_toArray, List.set_cons_zero, List.set_cons_succ])
        refine branchH [10] (by kernel_rfl) (by kernel_rfl) (AllStep.cons ?_ AllStep.nil)
        refine stepH_do (i := 10) rfl (by rfl) ?_
        refine wp_store_st H 30 _ _ rfl rfl rfl (by kernel_rfl) (by rfl) (by kernel_rfl) ?_
        clear H
        intro wx H
        replace HS := HS.of H
        refine ⟨HS, ?_⟩
        (try simp only [Act.put])
        refine takeAssign (i := 11) rfl rfl _ (by rfl) (by kernel_rfl) (by kernel_rfl) (by kernel_rfl) (fun _ _ _ _ h => h) (by rfl) HS ?_
        (try simp only [Act.put, List.setIfInBounds_toArray, List.set_cons_zero, List.set_cons_succ])
        refine doneH (by kernel_rfl) ?_
        go_wp2_with fail
        go_meet
        exact ⟨_, G1, y1, G2, y2, rfl, rfl, v1, v2, H.subm _⟩
    · refine stepH_do (i := 3) rfl (by rfl) ?_
      refine wp_buildSlice1_st H 31 _ rfl 45 Try.underlying31 _ rfl _ ev_info2 (by rfl) (by rfl) ?_
      clear H
      intro gs wx H
      replace HS := HS.of H
      refine ⟨HS, ?_⟩
      (try simp only [Act.put, List.setIfInBounds_toArray, List.set_cons_zero, List.set_cons_succ])
      refine branchH [1, 9] (by kernel_rfl) (by kernel_rfl) (AllStep.cons ?_ (AllStep.cons ?_ AllStep.nil))
      · refine stepH_do (i := 1) rfl (by rfl) ?_
        refine wp_append_st (v := .slice none 0 0) H _ _ 31 rfl rfl rfl Try.underlying31 _ _ ev_info (by rfl) (by omega) (H.evReads (es := p.es) HM.out) (qevCells_one _) (by simp only [maxLen]; omega) (by omega) ?_
        clear H
        intro A7 c7 wx hc7 hc7' H
        simp only [Nat.zero_add, List.nil_append] at H hc7 ⊢
        replace HS := HS.of H
        refine ⟨HS, ?_⟩
        (try simp only [Act.put, List.setIfInBounds_toArray, List.set_cons_zero, List.set_cons_succ])
        refine branchH [4, 9] (by kernel_rfl) (by kernel_rfl) (AllStep.cons ?_ (AllStep.cons ?_ AllStep.nil))
        · refine stepH_do (i := 4) rfl (by rfl) ?_
          refine wp_appendB_st (v := .slice A7 M c7) H _ _ 31 rfl rfl rfl Try.underlying31 _ _ ev_info (by rfl) (by rfl) (by rfl) (by kernel_rfl) (by simp only [maxLen]; omega) (by omega) ?_
          clear H
          intro A8 c8 wx hc8 hc8' H
          rw [evs_snoc] at H
          replace HS := HS.of H
          refine ⟨HS, ?_⟩
          (try simp only [Act.put, List.setIfInBounds_toArray, List.set_cons_zero, List.set_cons_succ])
          refine branchH [5, 9] (by kernel_rfl) (by kernel_rfl) (AllStep.cons ?_ (AllStep.cons ?_ AllStep.nil))
          · refine stepH_do (i := 5) rfl (by rfl) ?_
            replace H := H.freezeEvAt (A := A8) (c := c8) (n := M + 1) (es := p.es ++ [⟨x0, x1, x2, x3, x4, x5⟩]) (by rw [List.length_append, HM.out]; rfl)
            refine wp_call_st rfl Try.func22 (by kernel_rfl) (by kernel_rfl) _ ?_ ((replay_any (p.es ++ [⟨x0, x1, x2, x3, x4, x5⟩]) A8 (M + 1) c8 (by rw [List.length_append, HM.out]; rfl) H HB.out (by omega) hc8).mono ?_)
            · rfl
            rintro ed wy ⟨G1, y1, G2, y2, rfl, v1, v2, H⟩
            replace HS := HS.of H
            refine ⟨_, rfl, HS, ?_⟩
            (try simp only [Act.put, List.setIfInBounds_toArray, List.set_cons_zero, List.set_cons_succ])
            refine takeMove (i := 6) rfl rfl _ (by rfl) (by kernel_rfl) (by kernel_rfl) (by kernel_rfl) (fun _ _ _ _ h => h) (by rfl) HS ?_
            (try simp only [Act.put, List.setIfInBounds_toArray, List.set_cons_zero, List.set_cons_succ])
            refine takeExtract (i := 7) rfl rfl _ _ (by rfl) (by rfl) (by kernel_rfl) (by kernel_rfl) (by kernel_rfl) (fun _ _ _ _ h => h) (by rfl) HS ?_
            (try simp only [Act.put, List.setIfInBounds_toArray, List.set_cons_zero, List.set_cons_succ])
            refine takeExtract (i := 8) rfl rfl _ _ (by rfl) (by rfl) (by kernel_rfl) (by kernel_rfl) (by kernel_rfl) (fun _ _ _ _ h => h) (by rfl) HS ?_
            (try simp only [Act.put, List.setIfInBounds_toArray, List.set_cons_zero, List.set_cons_succ])
            refine branchH [9] (by kernel_rfl) (by kernel_rfl) (AllStep.cons ?_ AllStep.nil)
            refine stepH_do (i := 9) rfl (by rfl) ?_
            refine wp_alloc_st H 30 rfl _ q_zero ?_
            clear H
            intro gq9 wx H
            replace HS := HS.of H
            refine ⟨HS, ?_⟩
            (try simp only [Act.put, List.setIfInBounds_toArray, List.set_cons_zero, List.set_cons_succ])
            refine branchH [10] (by kernel_rfl) (by kernel_rfl) (AllStep.cons ?_ AllStep.nil)
            refine stepH_do (i := 10) rfl (by rfl) ?_
            refine wp_store_st H 30 _ _ rfl rfl rfl (by kernel_rfl) (by rfl) (by kernel_rfl) ?_
            clear H
            intro wx H
            replace HS := HS.of H
            refine ⟨HS, ?_⟩
            (try simp only [Act.put])
            refine takeAssign (i := 11) rfl rfl _ (by rfl) (by kernel_rfl) (by kernel_rfl) (by kernel_rfl) (fun _ _ _ _ h => h) (by rfl) HS ?_
            (try simp only [Act.put, List.setIfInBounds_toArray, List.set_cons_zero, List.set_cons_succ])
            refine doneH (by kernel_rfl) ?_
            go_wp2_with fail
            go_meet
            exact ⟨_, G1, y1, G2, y2, rfl, rfl, v1, v2, H.subm _⟩
          · refine stepH_do (i := 9) rfl (by rfl) ?_
            refine wp_alloc_st H 30 rfl _ q_zero ?_
            clear H
            intro gq9 wx H
            replace HS := HS.of H
            refine ⟨HS, ?_⟩
            (try simp only [Act.put, List.setIfInBounds_toArray, List.set_cons_zero, List.set_cons_succ])
            refine branchH [5] (by kernel_rfl) (by kernel_rfl) (AllStep.cons ?_ AllStep.nil)
            refine stepH_do (i := 5) rfl (by rfl) ?_
            replace H := H.freezeEvAt (A := A8) (c := c8) (n := M + 1) (es := p.es ++ [⟨x0, x1, x2, x3, x4, x5⟩]) (by rw [List.length_append, HM.out]; rfl)
            refine wp_call_st rfl Try.func22 (by kernel_rfl) (by kernel_rfl) _ ?_ ((replay_any (p.es ++ [⟨x0, x1, x2, x3, x4, x5⟩]) A8 (M + 1) c8 (by rw [List.length_append, HM.out]; rfl) H HB.out (by omega) hc8).mono ?_)
            · rfl
            rintro ed wy ⟨G1, y1, G2, y2, rfl, v1, v2, H⟩
            replace HS := HS.of H
            refine ⟨_, rfl, HS, ?_⟩
            (try simp only [Act.put, List.setIfInBounds_toArray, List.set_cons_zero, List.set_cons_succ])
            refine takeMove (i := 6) rfl rfl _ (by rfl) (by kernel_rfl) (by kernel_rfl) (by kernel_rfl) (fun _ _ _ _ h => h) (by rfl) HS ?_
            (try simp only [Act.put, List.setIfInBounds_toArray, List.set_cons_zero, List.set_cons_succ])
            refine takeExtract (i := 7) rfl rfl _ _ (by rfl) (by rfl) (by kernel_rfl) (by kernel_rfl) (by kernel_rfl) (fun _ _ _ _ h => h) (by rfl) HS ?_
            (try simp only [Act.put, List.setIfInBounds_toArray, List.set_cons_zero, List.set_cons_succ])
            refine takeExtract (i := 8) rfl rfl _ _ (by rfl) (by rfl) (by kernel_rfl) (by kernel_rfl) (by kernel_rfl) (fun _ _ _ _ h => h) (by rfl) HS ?_
            (try simp only [Act.put, List.setIfInBounds_toArray, List.set_cons_zero, List.set_cons_succ])
            refine branchH [10] (by kernel_rfl) (by kernel_rfl) (AllStep.cons ?_ AllStep.nil)
            refine stepH_do (i := 10) rfl (by rfl) ?_
            refine wp_store_st H 30 _ _ rfl rfl rfl (by kernel_rfl) (by rfl) (by kernel_rfl) ?_
            clear H
            intro wx H
            replace HS := HS.of H
            refine ⟨HS, ?_⟩
            (try simp only [Act.put])
            refine takeAssign (i := 11) rfl rfl _ (by rfl) (by kernel_rfl) (by kernel_rfl) (by kernel_rfl) (fun _ _ _ _ h => h) (by rfl) HS ?_
            (try simp only [Act.put, List.setIfInBounds_toArray, List.set_cons_zero, List.set_cons_succ])
            refine doneH (by kernel_rfl) ?_
            go_wp2_with fail
            go_meet
            exact ⟨_, G1, y1, G2, y2, rfl, rfl, v1, v2, H.subm _⟩
        · refine stepH_do (i := 9) rfl (by rfl) ?_
          refine wp_alloc_st H 30 rfl _ q_zero ?_
          clear H
          intro gq9 wx H
          replace HS := HS.of H
          refine ⟨HS, ?_⟩
          (try simp only [Act.put, List.setIfInBounds_toArray, List.set_cons_zero, List.set_cons_succ])
          refine branchH [4] (by kernel_rfl) (by kernel_rfl) (AllStep.cons ?_ AllStep.nil)
          refine stepH_do (i := 4) rfl (by rfl) ?_
          refine wp_appendB_st (v := .slice A7 M c7) H _ _ 31 rfl rfl rfl Try.underlying31 _ _ ev_info (by rfl) (by rfl) (by rfl) (by kernel_rfl) (by simp only [maxLen]; omega) (by omega) ?_
          clear H
          intro A8 c8 wx hc8 hc8' H
          rw [evs_snoc] at H
          replace HS := HS.of H
          refine ⟨HS, ?_⟩
          (try simp only [Act.put, List.setIfInBounds_toArray, List.set_cons_zero, List.set_cons_succ])
          refine branchH [5] (by kernel_rfl) (by kernel_rfl) (AllStep.cons ?_ AllStep.nil)
          refine stepH_do (i := 5) rfl (by rfl) ?_
          replace H := H.freezeEvAt (A := A8) (c := c8) (n := M + 1) (es := p.es ++ [⟨x0, x1, x2, x3, x4, x5⟩]) (by rw [List.length_append, HM.out]; rfl)
          refine wp_call_st rfl Try.func22 (by kernel_rfl) (by kernel_rfl) _ ?_ ((replay_any (p.es ++ [⟨x0, x1, x2, x3, x4, x5⟩]) A8 (M + 1) c8 (by rw [List.length_append, HM.out]; rfl) H HB.out (by omega) hc8).mono ?_)
          · rfl
          rintro ed wy ⟨G1, y1, G2, y2, rfl, v1, v2, H⟩
          replace HS := HS.of H
          refine ⟨_, rfl, HS, ?_⟩
          (try simp only [Act.put, List.setIfInBounds_toArray, List.set_cons_zero, List.set_cons_succ])
          refine takeMove (i := 6) rfl rfl _ (by rfl) (by kernel_rfl) (by kernel_rfl) (by kernel_rfl) (fun _ _ _ _ h => h) (by rfl) HS ?_
          (try simp only [Act.put, List.setIfInBounds_toArray, List.set_cons_zero, List.set_cons_succ])
          refine takeExtract (i := 7) rfl rfl _ _ (by rfl) (by rfl) (by kernel_rfl) (by kernel_rfl) (by kernel_rfl) (fun _ _ _ _ h => h) (by rfl) HS ?_
          (try simp only [Act.put, List.setIfInBounds_toArray, List.set_cons_zero, List.set_cons_succ])
          refine takeExtract (i := 8) rfl rfl _ _ (by rfl) (by rfl) (by kernel_rfl) (by kernel_rfl) (by kernel_rfl) (fun _ _ _ _ h => h) (by rfl) HS ?_
          (try simp only [Act.put, List.setIfInBounds_toArray, List.set_cons_zero, List.set_cons_succ])
          refine branchH [10] (by kernel_rfl) (by kernel_rfl) (AllStep.cons ?_ AllStep.nil)
          refine stepH_do (i := 10) rfl (by rfl) ?_
          refine wp_store_st H 30 _ _ rfl rfl rfl (by kernel_rfl) (by rfl) (by kernel_rfl) ?_
          clear H
          intro wx H
          replace HS := HS.of H
          refine ⟨HS, ?_⟩
          (try simp only [Act.put])
          refine takeAssign (i := 11) rfl rfl _ (by rfl) (by kernel_rfl) (by kernel_rfl) (by kernel_rfl) (fun _ _ _ _ h => h) (by rfl) HS ?_
          (try simp only [Act.put, List.setIfInBounds_toArray, List.set_cons_zero, List.set_cons_succ])
          refine doneH (by kernel_rfl) ?_
          go_wp2_with fail
          go_meet
          exact ⟨_, G1, y1, G2, y2, rfl, rfl, v1, v2, H.subm _⟩
      · refine stepH_do (i := 9) rfl (by rfl) ?_
        refine wp_alloc_st H 30 rfl _ q_zero ?_
        clear H
        intro gq9 wx H
        replace HS := HS.of H
        refine ⟨HS, ?_⟩
        (try simp only [Act.put, List.setIfInBounds_toArray, List.set_cons_zero, List.set_cons_succ])
        refine branchH [1] (by kernel_rfl) (by kernel_rfl) (AllStep.cons ?_ AllStep.nil)
        refine stepH_do (i := 1) rfl (by rfl) ?_
        refine wp_append_st (v := .slice none 0 0) H _ _ 31 rfl rfl rfl Try.underlying31 _ _ ev_info (by rfl) (by omega) (H.evReads (es := p.es) HM.out) (qevCells_one _) (by simp only [maxLen]; omega) (by omega) ?_
        clear H
        intro A7 c7 wx hc7 hc7' H
        simp only [Nat.zero_add, List.nil_append] at H hc7 ⊢
        replace HS := HS.of H
        refine ⟨HS, ?_⟩
        (try simp only [Act.put, List.setIfInBounds_toArray, List.set_cons_zero, List.set_cons_succ])
        refine branchH [4] (by kernel_rfl) (by kernel_rfl) (AllStep.cons ?_ AllStep.nil)
        refine stepH_do (i := 4) rfl (by rfl) ?_
        refine wp_appendB_st (v := .slice A7 M c7) H _ _ 31 rfl rfl rfl Try.underlying31 _ _ ev_info (by rfl) (by rfl) (by rfl) (by kernel_rfl) (by simp only [maxLen]; omega) (by omega) ?_
        clear H
        intro A8 c8 wx hc8 hc8' H
        rw [evs_snoc] at H
        replace HS := HS.of H
        refine ⟨HS, ?_⟩
        (try simp only [Act.put, List.setIfInBounds_toArray, List.set_cons_zero, List.set_cons_succ])
        refine branchH [5] (by kernel_rfl) (by kernel_rfl) (AllStep.cons ?_ AllStep.nil)
        refine stepH_do (i := 5) rfl (by rfl) ?_
        replace H := H.freezeEvAt (A := A8) (c := c8) (n := M + 1) (es := p.es ++ [⟨x0, x1, x2, x3, x4, x5⟩]) (by rw [List.length_append, HM.out]; rfl)
        refine wp_call_st rfl Try.func22 (by kernel_rfl) (by kernel_rfl) _ ?_ ((replay_any (p.es ++ [⟨x0, x1, x2, x3, x4, x5⟩]) A8 (M + 1) c8 (by rw [List.length_append, HM.out]; rfl) H HB.out (by omega) hc8).mono ?_)
        · rfl
        rintro ed wy ⟨G1, y1, G2, y2, rfl, v1, v2, H⟩
        replace HS := HS.of H
        refine ⟨_, rfl, HS, ?_⟩
        (try simp only [Act.put, List.setIfInBounds_toArray, List.set_cons_zero, List.set_cons_succ])
        refine takeMove (i := 6) rfl rfl _ (by rfl) (by kernel_rfl) (by kernel_rfl) (by kernel_rfl) (fun _ _ _ _ h => h) (by rfl) HS ?_
        (try simp only [Act.put, List.setIfInBounds_toArray, List.set_cons_zero, List.set_cons_succ])
        refine takeExtract (i := 7) rfl rfl _ _ (by rfl) (by rfl) (by kernel_rfl) (by kernel_rfl) (by kernel_rfl) (fun _ _ _ _ h => h) (by rfl) HS ?_
        (try simp only [Act.put, List.setIfInBounds_toArray, List.set_cons_zero, List.set_cons_succ])
        refine takeExtract (i := 8) rfl rfl _ _ (by rfl) (by rfl) (by kernel_rfl) (by kernel_rfl) (by kernel_rfl) (fun _ _ _ _ h => h) (by rfl) HS ?_
        (try simp only [Act.put, List.setIfInBounds_toArray, List.set_cons_zero, List.set_cons_succ])
        refine branchH [10] (by kernel_rfl) (by kernel_rfl) (AllStep.cons ?_ AllStep.nil)
        refine stepH_do (i := 10) rfl (by rfl) ?_
        refine wp_store_st H 30 _ _ rfl rfl rfl (by kernel_rfl) (by rfl) (by kernel_rfl) ?_
        clear H
        intro wx H
        replace HS := HS.of H
        refine ⟨HS, ?_⟩
        (try simp only [Act.put])
        refine takeAssign (i := 11) rfl rfl _ (by rfl) (by kernel_rfl) (by kernel_rfl) (by kernel_rfl) (fun _ _ _ _ h => h) (by rfl) HS ?_
        (try simp only [Act.put, List.setIfInBounds_toArray, List.set_cons_zero, List.set_cons_succ])
        refine doneH (by kernel_rfl) ?_
        go_wp2_with fail
        go_meet
        exact ⟨_, G1, y1, G2, y2, rfl, rfl, v1, v2, H.subm _⟩
    · refine stepH_do (i := 9) rfl (by rfl) ?_
      refine wp_alloc_st H 30 rfl _ q_zero ?_
      clear H
      intro gq9 wx H
      replace HS := HS.of H
      refine ⟨HS, ?_⟩
      (try simp only [Act.put, List.setIfInBounds_toArray, List.set_cons_zero, List.set_cons_succ])
      refine branchH [1, 3] (by kernel_rfl) (by kernel_rfl) (AllStep.cons ?_ (AllStep.cons ?_ AllStep.nil))
      · refine stepH_do (i := 1) rfl (by rfl) ?_
        refine wp_append_st (v := .slice none 0 0) H _ _ 31 rfl rfl rfl Try.underlying31 _ _ ev_info (by rfl) (by omega) (H.evReads (es := p.es) HM.out) (qevCells_one _) (by simp only [maxLen]; omega) (by omega) ?_
        clear H
        intro A7 c7 wx hc7 hc7' H
        simp only [Nat.zero_add, List.nil_append] at H hc7 ⊢
        replace HS := HS.of H
        refine ⟨HS, ?_⟩
        (try simp only [Act.put, List.setIfInBounds_toArray, List.set_cons_zero, List.set_cons_succ])
        refine branchH [3] (by kernel_rfl) (by kernel_rfl) (AllStep.cons ?_ AllStep.nil)
        refine stepH_do (i := 3) rfl (by rfl) ?_
        refine wp_buildSlice1_st H 31 _ rfl 45 Try.underlying31 _ rfl _ ev_info2 (by rfl) (by rfl) ?_
        clear H
        intro gs wx H
        replace HS := HS.of H
        refine ⟨HS, ?_⟩
        (try simp only [Act.put, List.setIfInBounds_toArray, List.set_cons_zero, List.set_cons_succ])
        refine branchH [4] (by kernel_rfl) (by kernel_rfl) (AllStep.cons ?_ AllStep.nil)
        refine stepH_do (i := 4) rfl (by rfl) ?_
        refine wp_appendB_st (v := .slice A7 M c7) H _ _ 31 rfl rfl rfl Try.underlying31 _ _ ev_info (by rfl) (by rfl) (by rfl) (by kernel_rfl) (by simp only [maxLen]; omega) (by omega) ?_
        clear H
        intro A8 c8 wx hc8 hc8' H
        rw [evs_snoc] at H
        replace HS := HS.of H
        refine ⟨HS, ?_⟩
        (try simp only [Act.put, List.setIfInBounds_toArray, List.set_cons_zero, List.set_cons_succ])
        refine branchH [5] (by kernel_rfl) (by kernel_rfl) (AllStep.cons ?_ AllStep.nil)
        refine stepH_do (i := 5) rfl (by rfl) ?_
        replace H := H.freezeEvAt (A := A8) (c := c8) (n := M + 1) (es := p.es ++ [⟨x0, x1, x2, x3, x4, x5⟩]) (by rw [List.length_append, HM.out]; rfl)
        refine wp_call_st rfl Try.func22 (by kernel_rfl) (by kernel_rfl) _ ?_ ((replay_any (p.es ++ [⟨x0, x1, x2, x3, x4, x5⟩]) A8 (M + 1) c8 (by rw [List.length_append, HM.out]; rfl) H HB.out (by omega) hc8).mono ?_)
        · rfl
        rintro ed wy ⟨G1, y1, G2, y2, rfl, v1, v2, H⟩
        replace HS := HS.of H
        refine ⟨_, rfl, HS, ?_⟩
        (try simp only [Act.put, List.setIfInBounds_toArray, List.set_cons_zero, List.set_cons_succ])
        refine takeMove (i := 6) rfl rfl _ (by rfl) (by kernel_rfl) (by kernel_rfl) (by kernel_rfl) (fun _ _ _ _ h => h) (by rfl) HS ?_
        (try simp only [Act.put, List.setIfInBounds_toArray, List.set_cons_zero, List.set_cons_succ])
        refine takeExtract (i := 7) rfl rfl _ _ (by rfl) (by rfl) (by kernel_rfl) (by kernel_rfl) (by kernel_rfl) (fun _ _ _ _ h => h) (by rfl) HS ?_
        (try simp only [Act.put, List.setIfInBounds_toArray, List.set_cons_zero, List.set_cons_succ])
        refine takeExtract (i := 8) rfl rfl _ _ (by rfl) (by rfl) (by kernel_rfl) (by kernel_rfl) (by kernel_rfl) (fun _ _ _ _ h => h) (by rfl) HS ?_
        (try simp only [Act.put, List.setIfInBounds_toArray, List.set_cons_zero, List.set_cons_succ])
        refine branchH [10] (by kernel_rfl) (by kernel_rfl) (AllStep.cons ?_ AllStep.nil)
        refine stepH_do (i := 10) rfl (by rfl) ?_
        refine wp_store_st H 30 _ _ rfl rfl rfl (by kernel_rfl) (by rfl) (by kernel_rfl) ?_
        clear H
        intro wx H
        replace HS := HS.of H
        refine ⟨HS, ?_⟩
        (try simp only [Act.put])
        refine takeAssign (i := 11) rfl rfl _ (by rfl) (by kernel_rfl) (by kernel_rfl) (by kernel_rfl) (fun _ _ _ _ h => h) (by rfl) HS ?_
        (try simp only [Act.put, List.setIfInBounds_toArray, List.set_cons_zero, List.set_cons_succ])
        refine doneH (by kernel_rfl) ?_
        go_wp2_with fail
        go_meet
        exact ⟨_, G1, y1, G2, y2, rfl, rfl, v1, v2, H.subm _⟩
      · refine stepH_do (i := 3) rfl (by rfl) ?_
        refine wp_buildSlice1_st H 31 _ rfl 45 Try.underlying31 _ rfl _ ev_info2 (by rfl) (by rfl) ?_
        clear H
        intro gs wx H
        replace HS := HS.of H
        refine ⟨HS, ?_⟩
        (try simp only [Act.put, List.setIfInBounds_toArray, List.set_cons_zero, List.set_cons_succ])
        refine branchH [1] (by kernel_rfl) (by kernel_rfl) (AllStep.cons ?_ AllStep.nil)
        refine stepH_do (i := 1) rfl (by rfl) ?_
        refine wp_append_st (v := .slice none 0 0) H _ _ 31 rfl rfl rfl Try.underlying31 _ _ ev_info (by rfl) (by omega) (H.evReads (es := p.es) HM.out) (qevCells_one _) (by simp only [maxLen]; omega) (by omega) ?_
        clear H
        intro A7 c7 wx hc7 hc7' H
        simp only [Nat.zero_add, List.nil_append] at H hc7 ⊢
        replace HS := HS.of H
        refine ⟨HS, ?_⟩
        (try simp only [Act.put, List.setIfInBounds_toArray, List.set_cons_zero, List.set_cons_succ])
        refine branchH [4] (by kernel_rfl) (by kernel_rfl) (AllStep.cons ?_ AllStep.nil)
        refine stepH_do (i := 4) rfl (by rfl) ?_
        refine wp_appendB_st (v := .slice A7 M c7) H _ _ 31 rfl rfl rfl Try.underlying31 _ _ ev_info (by rfl) (by rfl) (by rfl) (by kernel_rfl) (by simp only [maxLen]; omega) (by omega) ?_
        clear H
        intro A8 c8 wx hc8 hc8' H
        rw [evs_snoc] at H
        replace HS := HS.of H
        refine ⟨HS, ?_⟩
        (try simp only [Act.put, List.setIfInBounds_toArray, List.set_cons_zero, List.set_cons_succ])
        refine branchH [5] (by kernel_rfl) (by kernel_rfl) (AllStep.cons ?_ AllStep.nil)
        refine stepH_do (i := 5) rfl (by rfl) ?_
        replace H := H.freezeEvAt (A := A8) (c := c8) (n := M + 1) (es := p.es ++ [⟨x0, x1, x2, x3, x4, x5⟩]) (by rw [List.length_append, HM.out]; rfl)
        refine wp_call_st rfl Try.func22 (by kernel_rfl) (by kernel_rfl) _ ?_ ((replay_any (p.es ++ [⟨x0, x1, x2, x3, x4, x5⟩]) A8 (M + 1) c8 (by rw [List.length_append, HM.out]; rfl) H HB.out (by omega) hc8).mono ?_)
        · rfl
        rintro ed wy ⟨G1, y1, G2, y2, rfl, v1, v2, H⟩
        replace HS := HS.of H
        refine ⟨_, rfl, HS, ?_⟩
        (try simp only [Act.put, List.setIfInBounds_toArray, List.set_cons_zero, List.set_cons_succ])
        refine takeMove (i := 6) rfl rfl _ (by rfl) (by kernel_rfl) (by kernel_rfl) (by kernel_rfl) (fun _ _ _ _ h => h) (by rfl) HS ?_
        (try simp only [Act.put, List.setIfInBounds_toArray, List.set_cons_zero, List.set_cons_succ])
        refine takeExtract (i := 7) rfl rfl _ _ (by rfl) (by rfl) (by kernel_rfl) (by kernel_rfl) (by kernel_rfl) (fun _ _ _ _ h => h) (by rfl) HS ?_
        (try simp only [Act.put, List.setIfInBounds_toArray, List.set_cons_zero, List.set_cons_succ])
        refine takeExtract (i := 8) rfl rfl _ _ (by rfl) (by rfl) (by kernel_rfl) (by kernel_rfl) (by kernel_rfl) (fun _ _ _ _ h => h) (by rfl) HS ?_
        (try simp only [Act.put, List.setIfInBounds_toArray, List.set_cons_zero, List.set_cons_succ])
        refine branchH [10] (by kernel_rfl) (by kernel_rfl) (AllStep.cons ?_ AllStep.nil)
        refine stepH_do (i := 10) rfl (by rfl) ?_
        refine wp_store_st H 30 _ _ rfl rfl rfl (by kernel_rfl) (by rfl) (by kernel_rfl) ?_
        clear H
        intro wx H
        replace HS := HS.of H
        refine ⟨HS, ?_⟩
        (try simp only [Act.put])
        refine takeAssign (i := 11) rfl rfl _ (by rfl) (by kernel_rfl) (by kernel_rfl) (by kernel_rfl) (fun _ _ _ _ h => h) (by rfl) HS ?_
        (try simp only [Act.put, List.setIfInBounds_toArray, List.set_cons_zero, List.set_cons_succ])
        refine doneH (by kernel_rfl) ?_
        go_wp2_with fail
        go_meet
        exact ⟨_, G1, y1, G2, y2, rfl, rfl, v1, v2, H.subm _⟩
  case rest =>
    obtain ⟨gy, G1, y1, G2, y2, rfl, rfl, v1, v2, H⟩ := hcut
    rw [HRQ.out] at v1 v2 H
    rw [HRF.out]
    cases chg
    · go_wp2_with (first
    | ((with_reducible refine here_load ?_); first | (refine wpList_load_st H rfl 30 _ rfl rfl row_Queue (by kernel_rfl) ?_) | (refine wpList_load_st H rfl 47 _ rfl rfl row_Answer (by kernel_rfl) ?_) | (refine wpList_load_st H rfl 45 _ rfl rfl row_Event (by kernel_rfl) ?_) | (refine wpList_load_st H rfl 38 _ rfl rfl row_Deed (by kernel_rfl) ?_) | (refine wpList_load1_st H rfl 3 _ rfl rfl sc_int (by rfl) ?_) | (refine wpList_load1_stG H (by rfl) 3 _ rfl rfl sc_int (by rfl) ?_) | (refine wpList_load1_st H rfl 4 _ rfl rfl sc_bool (by rfl) ?_) | (refine wpList_load1_stG H (by rfl) 4 _ rfl rfl sc_bool (by rfl) ?_) | (refine wpList_load1_st H rfl 40 _ rfl rfl sc_Errno (by rfl) ?_) | (refine wpList_load1_stG H (by rfl) 40 _ rfl rfl sc_Errno (by rfl) ?_) | (refine wpList_load1_st H rfl 23 _ rfl rfl sc_Msgs (by rfl) ?_) | (refine wpList_load1_stG H (by rfl) 23 _ rfl rfl sc_Msgs (by rfl) ?_) | (refine wpList_load1_st H rfl 24 _ rfl rfl sc_Lss (by rfl) ?_) | (refine wpList_load1_stG H (by rfl) 24 _ rfl rfl sc_Lss (by rfl) ?_))
    | ((with_reducible refine here_store ?_); first | (refine wpList_store_st H rfl 30 _ _ rfl rfl rfl (by kernel_rfl) (by rfl) (by kernel_rfl) ?_; clear H; intro wx H) | (refine wpList_store_st H rfl 47 _ _ rfl rfl rfl (by kernel_rfl) (by rfl) (by kernel_rfl) ?_; clear H; intro wx H) | (refine wpList_store_st H rfl 45 _ _ rfl rfl rfl (by kernel_rfl) (by rfl) (by kernel_rfl) ?_; clear H; intro wx H) | (refine wpList_store_st H rfl 38 _ _ rfl rfl rfl (by kernel_rfl) (by rfl) (by kernel_rfl) ?_; clear H; intro wx H) | (refine wpList_store1_st H rfl 3 _ _ rfl rfl _ rfl (by rfl) s1_int (by rfl) (by rfl) ?_; clear H; intro wx H) | (refine wpList_store1_st H rfl 4 _ _ rfl rfl _ rfl (by rfl) s1_bool (by rfl) (by rfl) ?_; clear H; intro wx H) | (refine wpList_store1_st H rfl 40 _ _ rfl rfl _ rfl (by rfl) s1_Errno (by rfl) (by rfl) ?_; clear H; intro wx H) | (refine wpList_store1_st H rfl 23 _ _ rfl rfl _ rfl (by rfl) s1_Msgs (by rfl) (by rfl) ?_; clear H; intro wx H) | (refine wpList_store1_st H rfl 24 _ _ rfl rfl _ rfl (by rfl) s1_Lss (by rfl) (by rfl) ?_; clear H; intro wx H))
    | ((with_reducible refine here_alloc ?_); first | (refine wpList_alloc_st H rfl 30 rfl _ q_zero ?_; clear H; intro gq3 wx H) | (refine wpList_alloc_st H rfl 47 rfl _ ans_zero ?_; clear H; intro ga3 wx H) | (refine wpList_alloc_st H rfl 45 rfl _ ev_zero ?_; clear H; intro ge3 wx H))
    | ((with_reducible refine here_box ?_); first | (refine wpList_box_st H rfl _ _ rfl _ rfl ?_; clear H; intro gb3 wx H)))
      go_ret
      exact ⟨rfl, H.bel⟩
    · simp only [if_true] at v1 v2 H
      go_wp2_with (first | (go_at_call 23; refine (same_st q' H hlen2 v1 v2 u1 u2).mono ?_; rintro ed wx ⟨rfl, H⟩) | (first
    | ((with_reducible refine here_load ?_); refine wpList_loadPart_stG H (by rfl) 30 _ rfl rfl row_Queue (by kernel_rfl) (by rfl) _ (qArr_all _ _ _ _ _) ?_)
    | ((with_reducible refine here_load ?_); first | (refine wpList_load_st H rfl 30 _ rfl rfl row_Queue (by kernel_rfl) ?_) | (refine wpList_load_st H rfl 47 _ rfl rfl row_Answer (by kernel_rfl) ?_) | (refine wpList_load_st H rfl 45 _ rfl rfl row_Event (by kernel_rfl) ?_) | (refine wpList_load_st H rfl 38 _ rfl rfl row_Deed (by kernel_rfl) ?_) | (refine wpList_load1_st H rfl 3 _ rfl rfl sc_int (by rfl) ?_) | (refine wpList_load1_stG H (by rfl) 3 _ rfl rfl sc_int (by rfl) ?_) | (refine wpList_load1_st H rfl 4 _ rfl rfl sc_bool (by rfl) ?_) | (refine wpList_load1_stG H (by rfl) 4 _ rfl rfl sc_bool (by rfl) ?_) | (refine wpList_load1_st H rfl 40 _ rfl rfl sc_Errno (by rfl) ?_) | (refine wpList_load1_stG H (by rfl) 40 _ rfl rfl sc_Errno (by rfl) ?_) | (refine wpList_load1_st H rfl 23 _ rfl rfl sc_Msgs (by rfl) ?_) | (refine wpList_load1_stG H (by rfl) 23 _ rfl rfl sc_Msgs (by rfl) ?_) | (refine wpList_load1_st H rfl 24 _ rfl rfl sc_Lss (by rfl) ?_) | (refine wpList_load1_stG H (by rfl) 24 _ rfl rfl sc_Lss (by rfl) ?_))
    | ((with_reducible refine here_store ?_); first | (refine wpList_store_st H rfl 30 _ _ rfl rfl rfl (by kernel_rfl) (by rfl) (by kernel_rfl) ?_; clear H; intro wx H) | (refine wpList_store_st H rfl 47 _ _ rfl rfl rfl (by kernel_rfl) (by rfl) (by kernel_rfl) ?_; clear H; intro wx H) | (refine wpList_store_st H rfl 45 _ _ rfl rfl rfl (by kernel_rfl) (by rfl) (by kernel_rfl) ?_; clear H; intro wx H) | (refine wpList_store_st H rfl 38 _ _ rfl rfl rfl (by kernel_rfl) (by rfl) (by kernel_rfl) ?_; clear H; intro wx H) | (refine wpList_store1_st H rfl 3 _ _ rfl rfl _ rfl (by rfl) s1_int (by rfl) (by rfl) ?_; clear H; intro wx H) | (refine wpList_store1_st H rfl 4 _ _ rfl rfl _ rfl (by rfl) s1_bool (by rfl) (by rfl) ?_; clear H; intro wx H) | (refine wpList_store1_st H rfl 40 _ _ rfl rfl _ rfl (by rfl) s1_Errno (by rfl) (by rfl) ?_; clear H; intro wx H) | (refine wpList_store1_st H rfl 23 _ _ rfl rfl _ rfl (by rfl) s1_Msgs (by rfl) (by rfl) ?_; clear H; intro wx H) | (refine wpList_store1_st H rfl 24 _ _ rfl rfl _ rfl (by rfl) s1_Lss (by rfl) (by rfl) ?_; clear H; intro wx H))
    | ((with_reducible refine here_alloc ?_); first | (refine wpList_alloc_st H rfl 30 rfl _ q_zero ?_; clear H; intro gq3 wx H) | (refine wpList_alloc_st H rfl 47 rfl _ ans_zero ?_; clear H; intro ga3 wx H) | (refine wpList_alloc_st H rfl 45 rfl _ ev_zero ?_; clear H; intro ge3 wx H))
    | ((with_reducible refine here_box ?_); first | (refine wpList_box_st H rfl _ _ rfl _ rfl ?_; clear H; intro gb3 wx H))))
      go_ret
      exact ⟨rfl, H.bel⟩

end Go.Proofs.Ytkolmpeghnkjkaa
