/- HistoryBreak: the walk. -/
import Derived.Test.YtkolmpeghnkjkaaHLaw
namespace Go.Proofs.Ytkolmpeghnkjkaa
open Go.RowKit

def brk : Ev := ⟨4, 0, 0, 0, 0, 0⟩
theorem breaks_tells : ∀ (k : Nat) (q : QM) (la : List QA), ∃ q' la', tells (List.replicate k brk) q la = some (q', la') ∧ q'.ep = q.ep + (k : Int) ∧ q'.nx = q.nx ∧ q'.rd.length + q'.ls.length = q.rd.length + q.ls.length ∧ (0 < k → q'.ls.length = 0)
  | 0, q, la => ⟨q, la, rfl, by simp, rfl, rfl, fun h => by omega⟩
  | k + 1, q, la => by
    obtain ⟨q', la', h1, h2, h3, h4, h5⟩ := breaks_tells k q.endAll (la ++ [⟨0, 0, 0, 0⟩])
    have hst : q.step brk = (q.endAll, ⟨0, 0, 0, 0⟩, true) := by simp [QM.step, brk]
    have hl : q.endAll.rd.length + q.endAll.ls.length = q.rd.length + q.ls.length := by simp [QM.endAll]
    refine ⟨q', la', ?_, ?_, h3, by omega, fun _ => ?_⟩
    · rw [List.replicate_succ]
      simp only [tells, hst]
      exact h1
    · rw [h2]
      simp only [QM.endAll]
      omega
    · rcases Nat.eq_zero_or_pos k with h0 | h0
      · subst h0
        cases h1
        simp [QM.endAll]
      · exact h5 h0

set_option maxRecDepth 100000 in
set_option maxHeartbeats 8000000 in
theorem historyBreak_walk (A : Option Addr) (n c : Nat) (rows : List (List Int)) (id : Int) (w : World) (h : IsRows 4 32 w A n c rows) (hid : Is64 id) :
    Calls Try.prog 13 #[.slice A n c, .int .i64 id] w fun e w' => e = .returned (.bool true) ∧ Below w.heap.size w w' := by
  have H := St.start w
  have PL := Lib.hid (fun I H => played_st (w0 := w) (w := w) (I := I) A n c 60 rows H h (by omega))
  have hok := playN_ok rows (min n 60) (by omega)
  have hsn := playN_seen rows (min n 60)
  have htp := tells_played rows (min n 60)
  generalize playN rows (min n 60) = p at *
  have hle := hok.le
  have hroom := hok.room
  have hinv := hok.inv
  obtain ⟨i1, i2⟩ := hid
  obtain ⟨M, hM⟩ : ∃ M, p.es.length = M := ⟨_, rfl⟩
  have hM60 : M ≤ 60 := by omega
  have hck : ∀ e ∈ p.es, e.check = 0 := fun e he => (hsn e he).1
  have j0 := pick_lo id 5 (by omega)
  have j1 := pick_hi id 5 (by omega)
  have PJ := Lib.hid (fun W => picked_any id 5 W i1 i2 (by omega) (by omega))
  obtain ⟨k, hk⟩ : ∃ k : Nat, pick id 5 = (k : Int) := ⟨(pick id 5).toNat, by omega⟩
  rw [hk] at j0 j1 PJ
  have hk5 : k ≤ 4 := by omega
  have n1 := (tells_nums p.es _ _ _ _ hck QM.zero_inv htp).1
  obtain ⟨qb, lb, hb1, hb2, hb3, hb4, hb5⟩ := breaks_tells k p.q p.ans
  have hall : tells (p.es ++ List.replicate k brk) QM.zero [] = some (qb, lb) := by rw [tells_app, htp]; exact hb1
  have hckB : ∀ e ∈ p.es ++ List.replicate k brk, e.check = 0 := fun e he => by
    rcases List.mem_append.1 he with he | he
    · exact hck e he
    · rw [List.eq_of_mem_replicate he]
      decide
  have HM := Lib.hid hM
  have HR := Lib.hid htp
  have HB := Lib.hid hall
  have HCE := Lib.hid hck
  have HCB := Lib.hid hckB
  have hnx : p.q.nx = (p.es.countP (isKind 1) : Nat) := by rw [n1]; simp [QM.zero]
  have HNX := Lib.hid hnx
  have hr1 := hroom.1
  have hr4 := hroom.2.2.2
  have he0 := hinv.e0
  have w1 : IntKind.i64.wrap (p.q.ep + (k : Int)) = qb.ep := by rw [IntWalk.i64_in _ (by omega)]; omega
  have w2 : IntKind.i64.wrap ((p.q.rd.length : Int) + (p.q.ls.length : Int)) = ((p.q.rd.length + p.q.ls.length : Nat) : Int) := by rw [IntWalk.i64_in _ (by omega)]; omega
  have w3 : IntKind.i64.wrap ((qb.rd.length : Int) + (qb.ls.length : Int)) = ((p.q.rd.length + p.q.ls.length : Nat) : Int) := by rw [IntWalk.i64_in _ (by omega)]; omega
  have W1 := Lib.hid w1
  have W2 := Lib.hid w2
  have W3 := Lib.hid w3
  have HB3 := Lib.hid hb3
  have HB5 := Lib.hid hb5
  clear hok hsn htp hck hk hM hall hckB hnx n1 i1 i2 j0 j1 hle hroom hinv hb1 hb2 hb3 hb4 hb5 hr1 hr4 he0 w1 w2 w3
  go_enter Try.func13, Try.ntmps13
  go_wp2_with fail
  refine (PL.out _ H).mono ?_
  clear H PL
  rintro ed wx ⟨B1, d1, B2, d2, Ae, ce, Aa, ca, rfl, k1, k2, k3, k4, H⟩
  rw [HM.out] at k3 ⊢
  go_upto_region 3 with (first | (go_at_call 17; refine (PJ.out _).mono ?_; rintro e w' ⟨rfl, rfl⟩) | (first
    | ((with_reducible refine here_load ?_); first | (refine wpList_load_st H rfl 30 _ rfl rfl row_Queue (by kernel_rfl) ?_) | (refine wpList_load_st H rfl 47 _ rfl rfl row_Answer (by kernel_rfl) ?_) | (refine wpList_load_st H rfl 45 _ rfl rfl row_Event (by kernel_rfl) ?_) | (refine wpList_load1_st H rfl 3 _ rfl rfl sc_int (by rfl) ?_) | (refine wpList_load1_stG H (by rfl) 3 _ rfl rfl sc_int (by rfl) ?_) | (refine wpList_load1_st H rfl 4 _ rfl rfl sc_bool (by rfl) ?_) | (refine wpList_load1_stG H (by rfl) 4 _ rfl rfl sc_bool (by rfl) ?_) | (refine wpList_load1_st H rfl 40 _ rfl rfl sc_Errno (by rfl) ?_) | (refine wpList_load1_stG H (by rfl) 40 _ rfl rfl sc_Errno (by rfl) ?_) | (refine wpList_load1_st H rfl 23 _ rfl rfl sc_Msgs (by rfl) ?_) | (refine wpList_load1_stG H (by rfl) 23 _ rfl rfl sc_Msgs (by rfl) ?_) | (refine wpList_load1_st H rfl 24 _ rfl rfl sc_Lss (by rfl) ?_) | (refine wpList_load1_stG H (by rfl) 24 _ rfl rfl sc_Lss (by rfl) ?_))
    | ((with_reducible refine here_store ?_); first | (refine wpList_store_st H rfl 30 _ _ rfl rfl rfl (by kernel_rfl) (by rfl) (by kernel_rfl) ?_; clear H; intro wx H) | (refine wpList_store_st H rfl 47 _ _ rfl rfl rfl (by kernel_rfl) (by rfl) (by kernel_rfl) ?_; clear H; intro wx H) | (refine wpList_store_st H rfl 45 _ _ rfl rfl rfl (by kernel_rfl) (by rfl) (by kernel_rfl) ?_; clear H; intro wx H) | (refine wpList_store1_st H rfl 3 _ _ rfl rfl _ rfl (by rfl) s1_int (by rfl) (by rfl) ?_; clear H; intro wx H) | (refine wpList_store1_st H rfl 4 _ _ rfl rfl _ rfl (by rfl) s1_bool (by rfl) (by rfl) ?_; clear H; intro wx H) | (refine wpList_store1_st H rfl 40 _ _ rfl rfl _ rfl (by rfl) s1_Errno (by rfl) (by rfl) ?_; clear H; intro wx H) | (refine wpList_store1_st H rfl 23 _ _ rfl rfl _ rfl (by rfl) s1_Msgs (by rfl) (by rfl) ?_; clear H; intro wx H) | (refine wpList_store1_st H rfl 24 _ _ rfl rfl _ rfl (by rfl) s1_Lss (by rfl) (by rfl) ?_; clear H; intro wx H))
    | ((with_reducible refine here_alloc ?_); first | (refine wpList_alloc_st H rfl 30 rfl _ q_zero ?_; clear H; intro gq wx H) | (refine wpList_alloc_st H rfl 47 rfl _ ans_zero ?_; clear H; intro ga wx H) | (refine wpList_alloc_st H rfl 45 rfl _ ev_zero ?_; clear H; intro ge wx H))
    | ((with_reducible refine here_box ?_); first | (refine wpList_box_st H rfl _ _ rfl _ rfl ?_; clear H; intro gb wx H))))
  replace H := H.nilOwn 45 6
  go_upto_region 5 with (first | ((with_reducible refine here_call ?_); refine wpList_append_st (v := .slice none 0 0) H rfl _ _ 31 rfl rfl rfl Try.underlying31 _ _ ev_info (by rfl) (by omega) (H.evReads (es := p.es) HM.out) (qevCells_one _) (by simp only [maxLen]; omega) (by omega) ?_; clear H; intro A1 c1 wx hc1c1 hc2c1 H; simp only [Nat.zero_add, List.nil_append] at H hc1c1 ⊢) | (first
    | ((with_reducible refine here_load ?_); first | (refine wpList_load_st H rfl 30 _ rfl rfl row_Queue (by kernel_rfl) ?_) | (refine wpList_load_st H rfl 47 _ rfl rfl row_Answer (by kernel_rfl) ?_) | (refine wpList_load_st H rfl 45 _ rfl rfl row_Event (by kernel_rfl) ?_) | (refine wpList_load1_st H rfl 3 _ rfl rfl sc_int (by rfl) ?_) | (refine wpList_load1_stG H (by rfl) 3 _ rfl rfl sc_int (by rfl) ?_) | (refine wpList_load1_st H rfl 4 _ rfl rfl sc_bool (by rfl) ?_) | (refine wpList_load1_stG H (by rfl) 4 _ rfl rfl sc_bool (by rfl) ?_) | (refine wpList_load1_st H rfl 40 _ rfl rfl sc_Errno (by rfl) ?_) | (refine wpList_load1_stG H (by rfl) 40 _ rfl rfl sc_Errno (by rfl) ?_) | (refine wpList_load1_st H rfl 23 _ rfl rfl sc_Msgs (by rfl) ?_) | (refine wpList_load1_stG H (by rfl) 23 _ rfl rfl sc_Msgs (by rfl) ?_) | (refine wpList_load1_st H rfl 24 _ rfl rfl sc_Lss (by rfl) ?_) | (refine wpList_load1_stG H (by rfl) 24 _ rfl rfl sc_Lss (by rfl) ?_))
    | ((with_reducible refine here_store ?_); first | (refine wpList_store_st H rfl 30 _ _ rfl rfl rfl (by kernel_rfl) (by rfl) (by kernel_rfl) ?_; clear H; intro wx H) | (refine wpList_store_st H rfl 47 _ _ rfl rfl rfl (by kernel_rfl) (by rfl) (by kernel_rfl) ?_; clear H; intro wx H) | (refine wpList_store_st H rfl 45 _ _ rfl rfl rfl (by kernel_rfl) (by rfl) (by kernel_rfl) ?_; clear H; intro wx H) | (refine wpList_store1_st H rfl 3 _ _ rfl rfl _ rfl (by rfl) s1_int (by rfl) (by rfl) ?_; clear H; intro wx H) | (refine wpList_store1_st H rfl 4 _ _ rfl rfl _ rfl (by rfl) s1_bool (by rfl) (by rfl) ?_; clear H; intro wx H) | (refine wpList_store1_st H rfl 40 _ _ rfl rfl _ rfl (by rfl) s1_Errno (by rfl) (by rfl) ?_; clear H; intro wx H) | (refine wpList_store1_st H rfl 23 _ _ rfl rfl _ rfl (by rfl) s1_Msgs (by rfl) (by rfl) ?_; clear H; intro wx H) | (refine wpList_store1_st H rfl 24 _ _ rfl rfl _ rfl (by rfl) s1_Lss (by rfl) (by rfl) ?_; clear H; intro wx H))
    | ((with_reducible refine here_alloc ?_); first | (refine wpList_alloc_st H rfl 30 rfl _ q_zero ?_; clear H; intro gq wx H) | (refine wpList_alloc_st H rfl 47 rfl _ ans_zero ?_; clear H; intro ga wx H) | (refine wpList_alloc_st H rfl 45 rfl _ ev_zero ?_; clear H; intro ge wx H))
    | ((with_reducible refine here_box ?_); first | (refine wpList_box_st H rfl _ _ rfl _ rfl ?_; clear H; intro gb wx H))))
  replace H : St w wx (.ow 45 6 (.slice A1 (M + 0) c1) (M + 0) (qevCells (p.es ++ List.replicate 0 brk)) :: [evIt Ae p.es]) := by
    simp only [Nat.add_zero, List.replicate_zero, List.append_nil]
    exact H.subm _
  go_loopw [10, 11] (fun s10 s11 wr => ∃ (i : Nat) (A : Option Addr) (c : Nat), i ≤ k ∧ s11 = .int .i64 i ∧ s10 = .slice A (M + i) c ∧ M + i ≤ c ∧ c ≤ maxLen ∧ St w wr (.ow 45 6 (.slice A (M + i) c) (M + i) (qevCells (p.es ++ List.replicate i brk)) :: [evIt Ae p.es])) (fun _ s11 _ => k - (intOf s11).toNat)
  case atStart => exact ⟨0, A1, c1, by omega, rfl, rfl, hc1c1, hc2c1, H⟩
  case round =>
    clear H hc1c1 hc2c1
    obtain ⟨i, A1, c1, hi, rfl, rfl, hc1, hc2, H⟩ := hrel
    by_cases hlt : i < k
    · have hI : (i : Int) < (k : Int) := by omega
      have w4 : IntKind.i64.wrap ((i : Int) + 1) = (i : Int) + 1 := IntWalk.i64_in _ (by omega)
      go_wp2_with (first | ((with_reducible refine here_buildSlice ?_); refine wpList_buildSlice1_st H rfl 31 _ rfl 45 Try.underlying31 _ rfl _ ev_info2 (by rfl) (by rfl) ?_; clear H; intro gs wx H) | ((with_reducible refine here_call ?_); refine wpList_appendB_st (v := .slice A1 (M + i) c1) H rfl _ _ 31 rfl rfl rfl Try.underlying31 _ _ ev_info (by rfl) (by rfl) (by rfl) (by kernel_rfl) (by simp only [maxLen]; omega) (by omega) ?_; clear H; intro A2 c2 wx hc1c2 hc2c2 H) | (first
    | ((with_reducible refine here_load ?_); first | (refine wpList_load_st H rfl 30 _ rfl rfl row_Queue (by kernel_rfl) ?_) | (refine wpList_load_st H rfl 47 _ rfl rfl row_Answer (by kernel_rfl) ?_) | (refine wpList_load_st H rfl 45 _ rfl rfl row_Event (by kernel_rfl) ?_) | (refine wpList_load1_st H rfl 3 _ rfl rfl sc_int (by rfl) ?_) | (refine wpList_load1_stG H (by rfl) 3 _ rfl rfl sc_int (by rfl) ?_) | (refine wpList_load1_st H rfl 4 _ rfl rfl sc_bool (by rfl) ?_) | (refine wpList_load1_stG H (by rfl) 4 _ rfl rfl sc_bool (by rfl) ?_) | (refine wpList_load1_st H rfl 40 _ rfl rfl sc_Errno (by rfl) ?_) | (refine wpList_load1_stG H (by rfl) 40 _ rfl rfl sc_Errno (by rfl) ?_) | (refine wpList_load1_st H rfl 23 _ rfl rfl sc_Msgs (by rfl) ?_) | (refine wpList_load1_stG H (by rfl) 23 _ rfl rfl sc_Msgs (by rfl) ?_) | (refine wpList_load1_st H rfl 24 _ rfl rfl sc_Lss (by rfl) ?_) | (refine wpList_load1_stG H (by rfl) 24 _ rfl rfl sc_Lss (by rfl) ?_))
    | ((with_reducible refine here_store ?_); first | (refine wpList_store_st H rfl 30 _ _ rfl rfl rfl (by kernel_rfl) (by rfl) (by kernel_rfl) ?_; clear H; intro wx H) | (refine wpList_store_st H rfl 47 _ _ rfl rfl rfl (by kernel_rfl) (by rfl) (by kernel_rfl) ?_; clear H; intro wx H) | (refine wpList_store_st H rfl 45 _ _ rfl rfl rfl (by kernel_rfl) (by rfl) (by kernel_rfl) ?_; clear H; intro wx H) | (refine wpList_store1_st H rfl 3 _ _ rfl rfl _ rfl (by rfl) s1_int (by rfl) (by rfl) ?_; clear H; intro wx H) | (refine wpList_store1_st H rfl 4 _ _ rfl rfl _ rfl (by rfl) s1_bool (by rfl) (by rfl) ?_; clear H; intro wx H) | (refine wpList_store1_st H rfl 40 _ _ rfl rfl _ rfl (by rfl) s1_Errno (by rfl) (by rfl) ?_; clear H; intro wx H) | (refine wpList_store1_st H rfl 23 _ _ rfl rfl _ rfl (by rfl) s1_Msgs (by rfl) (by rfl) ?_; clear H; intro wx H) | (refine wpList_store1_st H rfl 24 _ _ rfl rfl _ rfl (by rfl) s1_Lss (by rfl) (by rfl) ?_; clear H; intro wx H))
    | ((with_reducible refine here_alloc ?_); first | (refine wpList_alloc_st H rfl 30 rfl _ q_zero ?_; clear H; intro gq2 wx H) | (refine wpList_alloc_st H rfl 47 rfl _ ans_zero ?_; clear H; intro ga2 wx H) | (refine wpList_alloc_st H rfl 45 rfl _ ev_zero ?_; clear H; intro ge2 wx H))
    | ((with_reducible refine here_box ?_); first | (refine wpList_box_st H rfl _ _ rfl _ rfl ?_; clear H; intro gb2 wx H))))
      go_roundw
      case rel =>
        refine ⟨i + 1, A2, c2, by omega, by go_num, rfl, hc1c2, hc2c2, ?_⟩
        rw [evs_snoc] at H
        have e : p.es ++ List.replicate i brk ++ [⟨4, 0, 0, 0, 0, 0⟩] = p.es ++ List.replicate (i + 1) brk := by
          rw [List.append_assoc, List.replicate_succ']
          rfl
        rw [e] at H
        exact H.subm _
      case measure => simp [intOf]; omega
    · obtain rfl : i = k := by omega
      have hI : ¬ (i : Int) < (i : Int) := by omega
      have hlB : (p.es ++ List.replicate i brk).length = M + i := by simp [HM.out]
      have HLB := Lib.hid hlB
      clear hlB
      go_upto_region 8 with (first
    | ((with_reducible refine here_load ?_); first | (refine wpList_load_st H rfl 30 _ rfl rfl row_Queue (by kernel_rfl) ?_) | (refine wpList_load_st H rfl 47 _ rfl rfl row_Answer (by kernel_rfl) ?_) | (refine wpList_load_st H rfl 45 _ rfl rfl row_Event (by kernel_rfl) ?_) | (refine wpList_load1_st H rfl 3 _ rfl rfl sc_int (by rfl) ?_) | (refine wpList_load1_stG H (by rfl) 3 _ rfl rfl sc_int (by rfl) ?_) | (refine wpList_load1_st H rfl 4 _ rfl rfl sc_bool (by rfl) ?_) | (refine wpList_load1_stG H (by rfl) 4 _ rfl rfl sc_bool (by rfl) ?_) | (refine wpList_load1_st H rfl 40 _ rfl rfl sc_Errno (by rfl) ?_) | (refine wpList_load1_stG H (by rfl) 40 _ rfl rfl sc_Errno (by rfl) ?_) | (refine wpList_load1_st H rfl 23 _ rfl rfl sc_Msgs (by rfl) ?_) | (refine wpList_load1_stG H (by rfl) 23 _ rfl rfl sc_Msgs (by rfl) ?_) | (refine wpList_load1_st H rfl 24 _ rfl rfl sc_Lss (by rfl) ?_) | (refine wpList_load1_stG H (by rfl) 24 _ rfl rfl sc_Lss (by rfl) ?_))
    | ((with_reducible refine here_store ?_); first | (refine wpList_store_st H rfl 30 _ _ rfl rfl rfl (by kernel_rfl) (by rfl) (by kernel_rfl) ?_; clear H; intro wx H) | (refine wpList_store_st H rfl 47 _ _ rfl rfl rfl (by kernel_rfl) (by rfl) (by kernel_rfl) ?_; clear H; intro wx H) | (refine wpList_store_st H rfl 45 _ _ rfl rfl rfl (by kernel_rfl) (by rfl) (by kernel_rfl) ?_; clear H; intro wx H) | (refine wpList_store1_st H rfl 3 _ _ rfl rfl _ rfl (by rfl) s1_int (by rfl) (by rfl) ?_; clear H; intro wx H) | (refine wpList_store1_st H rfl 4 _ _ rfl rfl _ rfl (by rfl) s1_bool (by rfl) (by rfl) ?_; clear H; intro wx H) | (refine wpList_store1_st H rfl 40 _ _ rfl rfl _ rfl (by rfl) s1_Errno (by rfl) (by rfl) ?_; clear H; intro wx H) | (refine wpList_store1_st H rfl 23 _ _ rfl rfl _ rfl (by rfl) s1_Msgs (by rfl) (by rfl) ?_; clear H; intro wx H) | (refine wpList_store1_st H rfl 24 _ _ rfl rfl _ rfl (by rfl) s1_Lss (by rfl) (by rfl) ?_; clear H; intro wx H))
    | ((with_reducible refine here_alloc ?_); first | (refine wpList_alloc_st H rfl 30 rfl _ q_zero ?_; clear H; intro gq wx H) | (refine wpList_alloc_st H rfl 47 rfl _ ans_zero ?_; clear H; intro ga wx H) | (refine wpList_alloc_st H rfl 45 rfl _ ev_zero ?_; clear H; intro ge wx H))
    | ((with_reducible refine here_box ?_); first | (refine wpList_box_st H rfl _ _ rfl _ rfl ?_; clear H; intro gb wx H)))
      go_wp2_with (first
    | ((with_reducible refine here_load ?_); first | (refine wpList_load_st H rfl 30 _ rfl rfl row_Queue (by kernel_rfl) ?_) | (refine wpList_load_st H rfl 47 _ rfl rfl row_Answer (by kernel_rfl) ?_) | (refine wpList_load_st H rfl 45 _ rfl rfl row_Event (by kernel_rfl) ?_) | (refine wpList_load1_st H rfl 3 _ rfl rfl sc_int (by rfl) ?_) | (refine wpList_load1_stG H (by rfl) 3 _ rfl rfl sc_int (by rfl) ?_) | (refine wpList_load1_st H rfl 4 _ rfl rfl sc_bool (by rfl) ?_) | (refine wpList_load1_stG H (by rfl) 4 _ rfl rfl sc_bool (by rfl) ?_) | (refine wpList_load1_st H rfl 40 _ rfl rfl sc_Errno (by rfl) ?_) | (refine wpList_load1_stG H (by rfl) 40 _ rfl rfl sc_Errno (by rfl) ?_) | (refine wpList_load1_st H rfl 23 _ rfl rfl sc_Msgs (by rfl) ?_) | (refine wpList_load1_stG H (by rfl) 23 _ rfl rfl sc_Msgs (by rfl) ?_) | (refine wpList_load1_st H rfl 24 _ rfl rfl sc_Lss (by rfl) ?_) | (refine wpList_load1_stG H (by rfl) 24 _ rfl rfl sc_Lss (by rfl) ?_))
    | ((with_reducible refine here_store ?_); first | (refine wpList_store_st H rfl 30 _ _ rfl rfl rfl (by kernel_rfl) (by rfl) (by kernel_rfl) ?_; clear H; intro wx H) | (refine wpList_store_st H rfl 47 _ _ rfl rfl rfl (by kernel_rfl) (by rfl) (by kernel_rfl) ?_; clear H; intro wx H) | (refine wpList_store_st H rfl 45 _ _ rfl rfl rfl (by kernel_rfl) (by rfl) (by kernel_rfl) ?_; clear H; intro wx H) | (refine wpList_store1_st H rfl 3 _ _ rfl rfl _ rfl (by rfl) s1_int (by rfl) (by rfl) ?_; clear H; intro wx H) | (refine wpList_store1_st H rfl 4 _ _ rfl rfl _ rfl (by rfl) s1_bool (by rfl) (by rfl) ?_; clear H; intro wx H) | (refine wpList_store1_st H rfl 40 _ _ rfl rfl _ rfl (by rfl) s1_Errno (by rfl) (by rfl) ?_; clear H; intro wx H) | (refine wpList_store1_st H rfl 23 _ _ rfl rfl _ rfl (by rfl) s1_Msgs (by rfl) (by rfl) ?_; clear H; intro wx H) | (refine wpList_store1_st H rfl 24 _ _ rfl rfl _ rfl (by rfl) s1_Lss (by rfl) (by rfl) ?_; clear H; intro wx H))
    | ((with_reducible refine here_alloc ?_); first | (refine wpList_alloc_st H rfl 30 rfl _ q_zero ?_; clear H; intro gq wx H) | (refine wpList_alloc_st H rfl 47 rfl _ ans_zero ?_; clear H; intro ga wx H) | (refine wpList_alloc_st H rfl 45 rfl _ ev_zero ?_; clear H; intro ge wx H))
    | ((with_reducible refine here_box ?_); first | (refine wpList_box_st H rfl _ _ rfl _ rfl ?_; clear H; intro gb wx H)))
      clear hI
      refine (replay_n p.es Ae M ce HM.out H HCE.out (by omega) k3).mono ?_
      clear H
      rintro ed wx ⟨h1, _⟩
      obtain ⟨C1, e1, C2, e2, rfl, u1, u2, H⟩ := h1 _ _ HR.out
      clear h1
      go_upto_region 9 with (first
    | ((with_reducible refine here_load ?_); first | (refine wpList_load_st H rfl 30 _ rfl rfl row_Queue (by kernel_rfl) ?_) | (refine wpList_load_st H rfl 47 _ rfl rfl row_Answer (by kernel_rfl) ?_) | (refine wpList_load_st H rfl 45 _ rfl rfl row_Event (by kernel_rfl) ?_) | (refine wpList_load1_st H rfl 3 _ rfl rfl sc_int (by rfl) ?_) | (refine wpList_load1_stG H (by rfl) 3 _ rfl rfl sc_int (by rfl) ?_) | (refine wpList_load1_st H rfl 4 _ rfl rfl sc_bool (by rfl) ?_) | (refine wpList_load1_stG H (by rfl) 4 _ rfl rfl sc_bool (by rfl) ?_) | (refine wpList_load1_st H rfl 40 _ rfl rfl sc_Errno (by rfl) ?_) | (refine wpList_load1_stG H (by rfl) 40 _ rfl rfl sc_Errno (by rfl) ?_) | (refine wpList_load1_st H rfl 23 _ rfl rfl sc_Msgs (by rfl) ?_) | (refine wpList_load1_stG H (by rfl) 23 _ rfl rfl sc_Msgs (by rfl) ?_) | (refine wpList_load1_st H rfl 24 _ rfl rfl sc_Lss (by rfl) ?_) | (refine wpList_load1_stG H (by rfl) 24 _ rfl rfl sc_Lss (by rfl) ?_))
    | ((with_reducible refine here_store ?_); first | (refine wpList_store_st H rfl 30 _ _ rfl rfl rfl (by kernel_rfl) (by rfl) (by kernel_rfl) ?_; clear H; intro wx H) | (refine wpList_store_st H rfl 47 _ _ rfl rfl rfl (by kernel_rfl) (by rfl) (by kernel_rfl) ?_; clear H; intro wx H) | (refine wpList_store_st H rfl 45 _ _ rfl rfl rfl (by kernel_rfl) (by rfl) (by kernel_rfl) ?_; clear H; intro wx H) | (refine wpList_store1_st H rfl 3 _ _ rfl rfl _ rfl (by rfl) s1_int (by rfl) (by rfl) ?_; clear H; intro wx H) | (refine wpList_store1_st H rfl 4 _ _ rfl rfl _ rfl (by rfl) s1_bool (by rfl) (by rfl) ?_; clear H; intro wx H) | (refine wpList_store1_st H rfl 40 _ _ rfl rfl _ rfl (by rfl) s1_Errno (by rfl) (by rfl) ?_; clear H; intro wx H) | (refine wpList_store1_st H rfl 23 _ _ rfl rfl _ rfl (by rfl) s1_Msgs (by rfl) (by rfl) ?_; clear H; intro wx H) | (refine wpList_store1_st H rfl 24 _ _ rfl rfl _ rfl (by rfl) s1_Lss (by rfl) (by rfl) ?_; clear H; intro wx H))
    | ((with_reducible refine here_alloc ?_); first | (refine wpList_alloc_st H rfl 30 rfl _ q_zero ?_; clear H; intro gq2 wx H) | (refine wpList_alloc_st H rfl 47 rfl _ ans_zero ?_; clear H; intro ga2 wx H) | (refine wpList_alloc_st H rfl 45 rfl _ ev_zero ?_; clear H; intro ge2 wx H))
    | ((with_reducible refine here_box ?_); first | (refine wpList_box_st H rfl _ _ rfl _ rfl ?_; clear H; intro gb2 wx H)))
      replace H := (H.subm (.ow 45 6 (.slice A1 (M + i) c1) (M + i) (qevCells (p.es ++ List.replicate i brk)) :: .bl gq2 30 (qArr p.q C1 e1 C2 e2) :: [evIt Ae p.es])).freezeEv HLB.out
      go_wp2_with (first
    | ((with_reducible refine here_load ?_); first | (refine wpList_load_st H rfl 30 _ rfl rfl row_Queue (by kernel_rfl) ?_) | (refine wpList_load_st H rfl 47 _ rfl rfl row_Answer (by kernel_rfl) ?_) | (refine wpList_load_st H rfl 45 _ rfl rfl row_Event (by kernel_rfl) ?_) | (refine wpList_load1_st H rfl 3 _ rfl rfl sc_int (by rfl) ?_) | (refine wpList_load1_stG H (by rfl) 3 _ rfl rfl sc_int (by rfl) ?_) | (refine wpList_load1_st H rfl 4 _ rfl rfl sc_bool (by rfl) ?_) | (refine wpList_load1_stG H (by rfl) 4 _ rfl rfl sc_bool (by rfl) ?_) | (refine wpList_load1_st H rfl 40 _ rfl rfl sc_Errno (by rfl) ?_) | (refine wpList_load1_stG H (by rfl) 40 _ rfl rfl sc_Errno (by rfl) ?_) | (refine wpList_load1_st H rfl 23 _ rfl rfl sc_Msgs (by rfl) ?_) | (refine wpList_load1_stG H (by rfl) 23 _ rfl rfl sc_Msgs (by rfl) ?_) | (refine wpList_load1_st H rfl 24 _ rfl rfl sc_Lss (by rfl) ?_) | (refine wpList_load1_stG H (by rfl) 24 _ rfl rfl sc_Lss (by rfl) ?_))
    | ((with_reducible refine here_store ?_); first | (refine wpList_store_st H rfl 30 _ _ rfl rfl rfl (by kernel_rfl) (by rfl) (by kernel_rfl) ?_; clear H; intro wx H) | (refine wpList_store_st H rfl 47 _ _ rfl rfl rfl (by kernel_rfl) (by rfl) (by kernel_rfl) ?_; clear H; intro wx H) | (refine wpList_store_st H rfl 45 _ _ rfl rfl rfl (by kernel_rfl) (by rfl) (by kernel_rfl) ?_; clear H; intro wx H) | (refine wpList_store1_st H rfl 3 _ _ rfl rfl _ rfl (by rfl) s1_int (by rfl) (by rfl) ?_; clear H; intro wx H) | (refine wpList_store1_st H rfl 4 _ _ rfl rfl _ rfl (by rfl) s1_bool (by rfl) (by rfl) ?_; clear H; intro wx H) | (refine wpList_store1_st H rfl 40 _ _ rfl rfl _ rfl (by rfl) s1_Errno (by rfl) (by rfl) ?_; clear H; intro wx H) | (refine wpList_store1_st H rfl 23 _ _ rfl rfl _ rfl (by rfl) s1_Msgs (by rfl) (by rfl) ?_; clear H; intro wx H) | (refine wpList_store1_st H rfl 24 _ _ rfl rfl _ rfl (by rfl) s1_Lss (by rfl) (by rfl) ?_; clear H; intro wx H))
    | ((with_reducible refine here_alloc ?_); first | (refine wpList_alloc_st H rfl 30 rfl _ q_zero ?_; clear H; intro gq2 wx H) | (refine wpList_alloc_st H rfl 47 rfl _ ans_zero ?_; clear H; intro ga2 wx H) | (refine wpList_alloc_st H rfl 45 rfl _ ev_zero ?_; clear H; intro ge2 wx H))
    | ((with_reducible refine here_box ?_); first | (refine wpList_box_st H rfl _ _ rfl _ rfl ?_; clear H; intro gb2 wx H)))
      refine (replay_n (p.es ++ List.replicate i brk) A1 (M + i) c1 HLB.out H HCB.out (by omega) hc1).mono ?_
      clear H
      rintro ed wx ⟨h1, _⟩
      obtain ⟨D1, f1, D2, f2, rfl, v1, v2, H⟩ := h1 _ _ HB.out
      clear h1
      go_upto_region 10 with (first
    | ((with_reducible refine here_load ?_); first | (refine wpList_load_st H rfl 30 _ rfl rfl row_Queue (by kernel_rfl) ?_) | (refine wpList_load_st H rfl 47 _ rfl rfl row_Answer (by kernel_rfl) ?_) | (refine wpList_load_st H rfl 45 _ rfl rfl row_Event (by kernel_rfl) ?_) | (refine wpList_load1_st H rfl 3 _ rfl rfl sc_int (by rfl) ?_) | (refine wpList_load1_stG H (by rfl) 3 _ rfl rfl sc_int (by rfl) ?_) | (refine wpList_load1_st H rfl 4 _ rfl rfl sc_bool (by rfl) ?_) | (refine wpList_load1_stG H (by rfl) 4 _ rfl rfl sc_bool (by rfl) ?_) | (refine wpList_load1_st H rfl 40 _ rfl rfl sc_Errno (by rfl) ?_) | (refine wpList_load1_stG H (by rfl) 40 _ rfl rfl sc_Errno (by rfl) ?_) | (refine wpList_load1_st H rfl 23 _ rfl rfl sc_Msgs (by rfl) ?_) | (refine wpList_load1_stG H (by rfl) 23 _ rfl rfl sc_Msgs (by rfl) ?_) | (refine wpList_load1_st H rfl 24 _ rfl rfl sc_Lss (by rfl) ?_) | (refine wpList_load1_stG H (by rfl) 24 _ rfl rfl sc_Lss (by rfl) ?_))
    | ((with_reducible refine here_store ?_); first | (refine wpList_store_st H rfl 30 _ _ rfl rfl rfl (by kernel_rfl) (by rfl) (by kernel_rfl) ?_; clear H; intro wx H) | (refine wpList_store_st H rfl 47 _ _ rfl rfl rfl (by kernel_rfl) (by rfl) (by kernel_rfl) ?_; clear H; intro wx H) | (refine wpList_store_st H rfl 45 _ _ rfl rfl rfl (by kernel_rfl) (by rfl) (by kernel_rfl) ?_; clear H; intro wx H) | (refine wpList_store1_st H rfl 3 _ _ rfl rfl _ rfl (by rfl) s1_int (by rfl) (by rfl) ?_; clear H; intro wx H) | (refine wpList_store1_st H rfl 4 _ _ rfl rfl _ rfl (by rfl) s1_bool (by rfl) (by rfl) ?_; clear H; intro wx H) | (refine wpList_store1_st H rfl 40 _ _ rfl rfl _ rfl (by rfl) s1_Errno (by rfl) (by rfl) ?_; clear H; intro wx H) | (refine wpList_store1_st H rfl 23 _ _ rfl rfl _ rfl (by rfl) s1_Msgs (by rfl) (by rfl) ?_; clear H; intro wx H) | (refine wpList_store1_st H rfl 24 _ _ rfl rfl _ rfl (by rfl) s1_Lss (by rfl) (by rfl) ?_; clear H; intro wx H))
    | ((with_reducible refine here_alloc ?_); first | (refine wpList_alloc_st H rfl 30 rfl _ q_zero ?_; clear H; intro gq3 wx H) | (refine wpList_alloc_st H rfl 47 rfl _ ans_zero ?_; clear H; intro ga3 wx H) | (refine wpList_alloc_st H rfl 45 rfl _ ev_zero ?_; clear H; intro ge3 wx H))
    | ((with_reducible refine here_box ?_); first | (refine wpList_box_st H rfl _ _ rfl _ rfl ?_; clear H; intro gb3 wx H)))
      have hx := (H.blk gq2)
      have hy := (H.blk gq3)
      obtain ⟨a0, a1, _, a3, a4⟩ := qArr_at p.q C1 e1 C2 e2
      obtain ⟨b0, b1, _, b3, b4⟩ := qArr_at qb D1 f1 D2 f2
      have x0 := (hx.cell 0).trans a0
      have x1 := (hx.cell 1).trans a1
      have x3 := (hx.cell 3).trans a3
      have x4 := (hx.cell 4).trans a4
      have y0 := (hy.cell 0).trans b0
      have y1 := (hy.cell 1).trans b1
      have y3 := (hy.cell 3).trans b3
      have y4 := (hy.cell 4).trans b4
      rw [HB3.out, HNX.out] at y1
      rw [HNX.out] at x1
      have HC := Lib.hid (fun q => count_n p.es Ae M ce 1 HM.out (H.drewN q) (by omega))
      have HH := Lib.hid H
      have w1 := W1.out
      have w2 := W2.out
      have w3 := W3.out
      have h5 := HB5.out
      clear H hx hy a0 a1 a3 a4 b0 b1 b3 b4 u1 u2 v1 v2
      generalize qb.ls.length = Lb at *
      generalize qb.rd.length = Rb at *
      generalize p.q.rd.length + p.q.ls.length = T at *
      generalize p.q.rd.length = Ra at *
      generalize p.q.ls.length = La at *
      rcases Nat.eq_zero_or_pos i with h0 | h0
      · subst h0
        have w1' : IntKind.i64.wrap p.q.ep = qb.ep := by simpa using w1
        clear h5 w1
        go_quiet ((go_at_call 16; with_reducible exact Calls.quiet_of_same (HC.out _)))
        go_wp2_with fail
        go_ret
        exact ⟨rfl, (HH.out.drewN _).bel⟩
      · have hL := h5 h0
        have c1' : ((Lb : Int) == 0) = true := by simp [hL]
        have c2' : ((i : Int) == 0) = false := by rw [beq_eq_false_iff_ne]; omega
        have c3' : decide ((i : Int) = 0) = false := decide_eq_false (by omega)
        have c4' : decide (i = 0) = false := decide_eq_false (by omega)
        have c5' : (i == 0) = false := by rw [beq_eq_false_iff_ne]; omega
        have c6' : decide (Lb = 0) = true := decide_eq_true hL
        have c7' : (Lb == 0) = true := by simp [hL]
        clear h5 hL
        go_quiet ((go_at_call 16; with_reducible exact Calls.quiet_of_same (HC.out _)))
        go_wp2_with fail
        go_ret
        exact ⟨rfl, (HH.out.drewN _).bel⟩

end Go.Proofs.Ytkolmpeghnkjkaa
