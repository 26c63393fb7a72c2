/- QueueOrder: the walk. -/
import Derived.Test.YtkolmpeghnkjkaaQSt
import Derived.Deep.QuietTactic
import Derived.BigQuiet
namespace Go.Proofs.Ytkolmpeghnkjkaa
open Go.RowKit

/-- a variable that holds a queue -/
def QAt (w0 w : World) (g : Nat) (q : QM) : Prop := ∃ B1 d1 B2 d2, q.rd.length ≤ d1 ∧ q.ls.length ≤ d2 ∧ St w0 w [.bl g 30 (qArr q B1 d1 B2 d2), rdIt q B1, lsIt q B2]
def lenAt (w : World) (g j : Nat) : Nat := match w.cell? ⟨g, j, none⟩ with | some (.slice _ n _) => n | _ => 0
theorem qArr_at (q : QM) (A1 : Option Addr) (c1 : Nat) (A2 : Option Addr) (c2 : Nat) :
    (qArr q A1 c1 A2 c2)[0]? = some (.int .i64 q.ep) ∧ (qArr q A1 c1 A2 c2)[1]? = some (.int .i64 q.nx) ∧ (qArr q A1 c1 A2 c2)[2]? = some (.int .i64 q.gv) ∧ (qArr q A1 c1 A2 c2)[3]? = some (.slice A1 q.rd.length c1) ∧ (qArr q A1 c1 A2 c2)[4]? = some (.slice A2 q.ls.length c2) := ⟨rfl, rfl, rfl, rfl, rfl⟩

set_option maxRecDepth 100000 in
set_option maxHeartbeats 8000000 in
theorem queueOrder_walk (A : Option Addr) (n c : Nat) (rows : List (List Int)) (w : World) (h : IsRows 4 32 w A n c rows) :
    Calls Try.prog 5 #[.slice A n c] w fun e w' => e = .returned (.bool true) ∧ Below w.heap.size w w' := by
  have H := St.start w
  have PL := Lib.hid (fun I H => played_st (w0 := w) (w := w) (I := I) A n c 40 rows H h (by omega))
  have hok := playN_ok rows (min n 40) (by omega)
  have hkp := playN_keeps rows (min n 40)
  generalize playN rows (min n 40) = p at *
  have hinv := Lib.hid hok.inv
  have hroom : p.q.Room (p.q.rd.length + 5) := by
    have h1 := hok.room
    have h2 := hok.inv
    have h3 : p.q.rd.length ≤ 40 := by
      have h4 := hkp.len
      have h5 : p.es.countP (isKind 1) ≤ p.es.length := List.countP_le_length
      have h6 := hok.le
      omega
    exact h1.less (by omega)
  have HROOM := Lib.hid hroom
  clear hok hroom hkp
  go_enter Try.func5, Try.ntmps5
  go_wp2_with fail
  refine (PL.out _ H).mono ?_
  clear H
  rintro ed wx ⟨B1, d1, B2, d2, Ae, ce, Aa, ca, rfl, k1, k2, k3, k4, H⟩
  go_upto_region 4 with (first
    | ((with_reducible refine here_load ?_); first | (refine wpList_load_st H rfl 30 _ rfl rfl row_Queue (by kernel_rfl) ?_) | (refine wpList_load_st H rfl 47 _ rfl rfl row_Answer (by kernel_rfl) ?_) | (refine wpList_load_st H rfl 45 _ rfl rfl row_Event (by kernel_rfl) ?_) | (refine wpList_load1_st H rfl 3 _ rfl rfl sc_int (by rfl) ?_) | (refine wpList_load1_stG H (by rfl) 3 _ rfl rfl sc_int (by rfl) ?_) | (refine wpList_load1_st H rfl 4 _ rfl rfl sc_bool (by rfl) ?_) | (refine wpList_load1_stG H (by rfl) 4 _ rfl rfl sc_bool (by rfl) ?_) | (refine wpList_load1_st H rfl 40 _ rfl rfl sc_Errno (by rfl) ?_) | (refine wpList_load1_stG H (by rfl) 40 _ rfl rfl sc_Errno (by rfl) ?_) | (refine wpList_load1_st H rfl 23 _ rfl rfl sc_Msgs (by rfl) ?_) | (refine wpList_load1_stG H (by rfl) 23 _ rfl rfl sc_Msgs (by rfl) ?_) | (refine wpList_load1_st H rfl 24 _ rfl rfl sc_Lss (by rfl) ?_) | (refine wpList_load1_stG H (by rfl) 24 _ rfl rfl sc_Lss (by rfl) ?_))
    | ((with_reducible refine here_store ?_); first | (refine wpList_store_st H rfl 30 _ _ rfl rfl rfl (by kernel_rfl) (by rfl) (by kernel_rfl) ?_; clear H; intro wx H) | (refine wpList_store_st H rfl 47 _ _ rfl rfl rfl (by kernel_rfl) (by rfl) (by kernel_rfl) ?_; clear H; intro wx H) | (refine wpList_store_st H rfl 45 _ _ rfl rfl rfl (by kernel_rfl) (by rfl) (by kernel_rfl) ?_; clear H; intro wx H) | (refine wpList_store1_st H rfl 3 _ _ rfl rfl _ rfl (by rfl) s1_int (by rfl) (by rfl) ?_; clear H; intro wx H) | (refine wpList_store1_st H rfl 4 _ _ rfl rfl _ rfl (by rfl) s1_bool (by rfl) (by rfl) ?_; clear H; intro wx H) | (refine wpList_store1_st H rfl 40 _ _ rfl rfl _ rfl (by rfl) s1_Errno (by rfl) (by rfl) ?_; clear H; intro wx H) | (refine wpList_store1_st H rfl 23 _ _ rfl rfl _ rfl (by rfl) s1_Msgs (by rfl) (by rfl) ?_; clear H; intro wx H) | (refine wpList_store1_st H rfl 24 _ _ rfl rfl _ rfl (by rfl) s1_Lss (by rfl) (by rfl) ?_; clear H; intro wx H))
    | ((with_reducible refine here_alloc ?_); first | (refine wpList_alloc_st H rfl 30 rfl _ q_zero ?_; clear H; intro gq wx H) | (refine wpList_alloc_st H rfl 47 rfl _ ans_zero ?_; clear H; intro ga wx H) | (refine wpList_alloc_st H rfl 45 rfl _ ev_zero ?_; clear H; intro ge wx H))
    | ((with_reducible refine here_box ?_); first | (refine wpList_box_st H rfl _ _ rfl _ rfl ?_; clear H; intro gb wx H)))
  have HQ : QAt w wx gq p.q := ⟨B1, d1, B2, d2, k1, k2, H.subm _⟩
  clear PL H k3 k4
  go_loopw [7, 8] (fun s7 s8 wr => ∃ (q : QM) (l : Int), s8 = .int .i64 0 ∧ s7 = .int .i64 l ∧ q.Inv ∧ q.Room (q.rd.length + 5) ∧ (∀ m ∈ q.rd, l < m.1) ∧ QAt w wr gq q) (fun _ _ wr => lenAt wr gq 3)
  case atStart => exact ⟨p.q, -1, rfl, rfl, hinv.out, HROOM.out, fun m hm => by have := (hinv.out.rd m hm).1; omega, HQ⟩
  case round =>
    clear HQ hinv HROOM k1 k2
    obtain ⟨q, l, rfl, rfl, hinv, hroom, hl, B1, d1, B2, d2, k1, k2, H⟩ := hrel
    have hinv := Lib.hid hinv
    have hroom' := Lib.hid hroom
    have hl := Lib.hid hl
    clear hroom
    have hlen : lenAt wr gq 3 = q.rd.length := by
      unfold lenAt
      rw [((H.blk gq).cell 3).trans (qArr_at q B1 d1 B2 d2).2.2.2.1]
    obtain hrd | ⟨m, rd, hrd⟩ : q.rd = [] ∨ ∃ m rd, q.rd = m :: rd := by cases q.rd <;> simp
    · have hrc : q.step ⟨2, 0, 0, 0, 0, 0⟩ = (q, ⟨10, 0, 0, 0⟩, false) := by simp [QM.step, QM.recv, hrd]
      have CD := Lib.hid (fun W I H h1 h2 => do_st (w0 := w) (w := W) (I := I) (h1 := h1) (h2 := h2) q ⟨2, 0, 0, 0, 0, 0⟩ (A1 := B1) (A2 := B2) (c1 := d1) (c2 := d2) H hinv.out (hroom'.out.less (by omega)) (by decide) k1 k2)
      rw [hrc] at CD
      have HRD := Lib.hid hrd
      have hlz : ((q.rd.length : Nat) : Int) = 0 := by rw [hrd]; rfl
      have HLZ := Lib.hid hlz
      clear hrc hlen k1 k2 hrd hlz
      have hlz := HRD.out
      go_upto_region 12 with (first
    | ((with_reducible refine here_load ?_); first | (refine wpList_load_st H rfl 30 _ rfl rfl row_Queue (by kernel_rfl) ?_) | (refine wpList_load_st H rfl 47 _ rfl rfl row_Answer (by kernel_rfl) ?_) | (refine wpList_load_st H rfl 45 _ rfl rfl row_Event (by kernel_rfl) ?_) | (refine wpList_load1_st H rfl 3 _ rfl rfl sc_int (by rfl) ?_) | (refine wpList_load1_stG H (by rfl) 3 _ rfl rfl sc_int (by rfl) ?_) | (refine wpList_load1_st H rfl 4 _ rfl rfl sc_bool (by rfl) ?_) | (refine wpList_load1_stG H (by rfl) 4 _ rfl rfl sc_bool (by rfl) ?_) | (refine wpList_load1_st H rfl 40 _ rfl rfl sc_Errno (by rfl) ?_) | (refine wpList_load1_stG H (by rfl) 40 _ rfl rfl sc_Errno (by rfl) ?_) | (refine wpList_load1_st H rfl 23 _ rfl rfl sc_Msgs (by rfl) ?_) | (refine wpList_load1_stG H (by rfl) 23 _ rfl rfl sc_Msgs (by rfl) ?_) | (refine wpList_load1_st H rfl 24 _ rfl rfl sc_Lss (by rfl) ?_) | (refine wpList_load1_stG H (by rfl) 24 _ rfl rfl sc_Lss (by rfl) ?_))
    | ((with_reducible refine here_store ?_); first | (refine wpList_store_st H rfl 30 _ _ rfl rfl rfl (by kernel_rfl) (by rfl) (by kernel_rfl) ?_; clear H; intro wx H) | (refine wpList_store_st H rfl 47 _ _ rfl rfl rfl (by kernel_rfl) (by rfl) (by kernel_rfl) ?_; clear H; intro wx H) | (refine wpList_store_st H rfl 45 _ _ rfl rfl rfl (by kernel_rfl) (by rfl) (by kernel_rfl) ?_; clear H; intro wx H) | (refine wpList_store1_st H rfl 3 _ _ rfl rfl _ rfl (by rfl) s1_int (by rfl) (by rfl) ?_; clear H; intro wx H) | (refine wpList_store1_st H rfl 4 _ _ rfl rfl _ rfl (by rfl) s1_bool (by rfl) (by rfl) ?_; clear H; intro wx H) | (refine wpList_store1_st H rfl 40 _ _ rfl rfl _ rfl (by rfl) s1_Errno (by rfl) (by rfl) ?_; clear H; intro wx H) | (refine wpList_store1_st H rfl 23 _ _ rfl rfl _ rfl (by rfl) s1_Msgs (by rfl) (by rfl) ?_; clear H; intro wx H) | (refine wpList_store1_st H rfl 24 _ _ rfl rfl _ rfl (by rfl) s1_Lss (by rfl) (by rfl) ?_; clear H; intro wx H))
    | ((with_reducible refine here_alloc ?_); first | (refine wpList_alloc_st H rfl 30 rfl _ q_zero ?_; clear H; intro gq wx H) | (refine wpList_alloc_st H rfl 47 rfl _ ans_zero ?_; clear H; intro ga wx H) | (refine wpList_alloc_st H rfl 45 rfl _ ev_zero ?_; clear H; intro ge wx H))
    | ((with_reducible refine here_box ?_); first | (refine wpList_box_st H rfl _ _ rfl _ rfl ?_; clear H; intro gb wx H)))
      go_wp2_with (first
    | ((with_reducible refine here_load ?_); first | (refine wpList_load_st H rfl 30 _ rfl rfl row_Queue (by kernel_rfl) ?_) | (refine wpList_load_st H rfl 47 _ rfl rfl row_Answer (by kernel_rfl) ?_) | (refine wpList_load_st H rfl 45 _ rfl rfl row_Event (by kernel_rfl) ?_) | (refine wpList_load1_st H rfl 3 _ rfl rfl sc_int (by rfl) ?_) | (refine wpList_load1_stG H (by rfl) 3 _ rfl rfl sc_int (by rfl) ?_) | (refine wpList_load1_st H rfl 4 _ rfl rfl sc_bool (by rfl) ?_) | (refine wpList_load1_stG H (by rfl) 4 _ rfl rfl sc_bool (by rfl) ?_) | (refine wpList_load1_st H rfl 40 _ rfl rfl sc_Errno (by rfl) ?_) | (refine wpList_load1_stG H (by rfl) 40 _ rfl rfl sc_Errno (by rfl) ?_) | (refine wpList_load1_st H rfl 23 _ rfl rfl sc_Msgs (by rfl) ?_) | (refine wpList_load1_stG H (by rfl) 23 _ rfl rfl sc_Msgs (by rfl) ?_) | (refine wpList_load1_st H rfl 24 _ rfl rfl sc_Lss (by rfl) ?_) | (refine wpList_load1_stG H (by rfl) 24 _ rfl rfl sc_Lss (by rfl) ?_))
    | ((with_reducible refine here_store ?_); first | (refine wpList_store_st H rfl 30 _ _ rfl rfl rfl (by kernel_rfl) (by rfl) (by kernel_rfl) ?_; clear H; intro wx H) | (refine wpList_store_st H rfl 47 _ _ rfl rfl rfl (by kernel_rfl) (by rfl) (by kernel_rfl) ?_; clear H; intro wx H) | (refine wpList_store_st H rfl 45 _ _ rfl rfl rfl (by kernel_rfl) (by rfl) (by kernel_rfl) ?_; clear H; intro wx H) | (refine wpList_store1_st H rfl 3 _ _ rfl rfl _ rfl (by rfl) s1_int (by rfl) (by rfl) ?_; clear H; intro wx H) | (refine wpList_store1_st H rfl 4 _ _ rfl rfl _ rfl (by rfl) s1_bool (by rfl) (by rfl) ?_; clear H; intro wx H) | (refine wpList_store1_st H rfl 40 _ _ rfl rfl _ rfl (by rfl) s1_Errno (by rfl) (by rfl) ?_; clear H; intro wx H) | (refine wpList_store1_st H rfl 23 _ _ rfl rfl _ rfl (by rfl) s1_Msgs (by rfl) (by rfl) ?_; clear H; intro wx H) | (refine wpList_store1_st H rfl 24 _ _ rfl rfl _ rfl (by rfl) s1_Lss (by rfl) (by rfl) ?_; clear H; intro wx H))
    | ((with_reducible refine here_alloc ?_); first | (refine wpList_alloc_st H rfl 30 rfl _ q_zero ?_; clear H; intro gq wx H) | (refine wpList_alloc_st H rfl 47 rfl _ ans_zero ?_; clear H; intro ga wx H) | (refine wpList_alloc_st H rfl 45 rfl _ ev_zero ?_; clear H; intro ge wx H))
    | ((with_reducible refine here_box ?_); first | (refine wpList_box_st H rfl _ _ rfl _ rfl ?_; clear H; intro gb wx H)))
      refine (CD.out _ _ H inferInstance inferInstance).mono ?_
      rintro ed wy ⟨F1, f1, F2, f2, rfl, u1, u2, H⟩
      unfold QA.val ansV
      dsimp only at H u1 u2 ⊢
      go_wp2_with (first
    | ((with_reducible refine here_load ?_); first | (refine wpList_load_st H rfl 30 _ rfl rfl row_Queue (by kernel_rfl) ?_) | (refine wpList_load_st H rfl 47 _ rfl rfl row_Answer (by kernel_rfl) ?_) | (refine wpList_load_st H rfl 45 _ rfl rfl row_Event (by kernel_rfl) ?_) | (refine wpList_load1_st H rfl 3 _ rfl rfl sc_int (by rfl) ?_) | (refine wpList_load1_stG H (by rfl) 3 _ rfl rfl sc_int (by rfl) ?_) | (refine wpList_load1_st H rfl 4 _ rfl rfl sc_bool (by rfl) ?_) | (refine wpList_load1_stG H (by rfl) 4 _ rfl rfl sc_bool (by rfl) ?_) | (refine wpList_load1_st H rfl 40 _ rfl rfl sc_Errno (by rfl) ?_) | (refine wpList_load1_stG H (by rfl) 40 _ rfl rfl sc_Errno (by rfl) ?_) | (refine wpList_load1_st H rfl 23 _ rfl rfl sc_Msgs (by rfl) ?_) | (refine wpList_load1_stG H (by rfl) 23 _ rfl rfl sc_Msgs (by rfl) ?_) | (refine wpList_load1_st H rfl 24 _ rfl rfl sc_Lss (by rfl) ?_) | (refine wpList_load1_stG H (by rfl) 24 _ rfl rfl sc_Lss (by rfl) ?_))
    | ((with_reducible refine here_store ?_); first | (refine wpList_store_st H rfl 30 _ _ rfl rfl rfl (by kernel_rfl) (by rfl) (by kernel_rfl) ?_; clear H; intro wx H) | (refine wpList_store_st H rfl 47 _ _ rfl rfl rfl (by kernel_rfl) (by rfl) (by kernel_rfl) ?_; clear H; intro wx H) | (refine wpList_store_st H rfl 45 _ _ rfl rfl rfl (by kernel_rfl) (by rfl) (by kernel_rfl) ?_; clear H; intro wx H) | (refine wpList_store1_st H rfl 3 _ _ rfl rfl _ rfl (by rfl) s1_int (by rfl) (by rfl) ?_; clear H; intro wx H) | (refine wpList_store1_st H rfl 4 _ _ rfl rfl _ rfl (by rfl) s1_bool (by rfl) (by rfl) ?_; clear H; intro wx H) | (refine wpList_store1_st H rfl 40 _ _ rfl rfl _ rfl (by rfl) s1_Errno (by rfl) (by rfl) ?_; clear H; intro wx H) | (refine wpList_store1_st H rfl 23 _ _ rfl rfl _ rfl (by rfl) s1_Msgs (by rfl) (by rfl) ?_; clear H; intro wx H) | (refine wpList_store1_st H rfl 24 _ _ rfl rfl _ rfl (by rfl) s1_Lss (by rfl) (by rfl) ?_; clear H; intro wx H))
    | ((with_reducible refine here_alloc ?_); first | (refine wpList_alloc_st H rfl 30 rfl _ q_zero ?_; clear H; intro gq2 wx H) | (refine wpList_alloc_st H rfl 47 rfl _ ans_zero ?_; clear H; intro ga2 wx H) | (refine wpList_alloc_st H rfl 45 rfl _ ev_zero ?_; clear H; intro ge2 wx H))
    | ((with_reducible refine here_box ?_); first | (refine wpList_box_st H rfl _ _ rfl _ rfl ?_; clear H; intro gb2 wx H)))
      go_ret
      exact ⟨rfl, H.bel⟩
    · have hrc : q.step ⟨2, 0, 0, 0, 0, 0⟩ = (⟨q.ep, q.nx, q.gv + 1, rd, q.ls ++ [(q.gv, m.1, m.2)], q.t, q.S⟩, ⟨0, q.ep, q.gv, m.2⟩, true) := by simp [QM.step, QM.recv, hrd]
      have hinv' := hinv.out.step (e := ⟨2, 0, 0, 0, 0, 0⟩) (by decide)
      have hroom2 : q.Room (rd.length + 5 + 1) := by
        have := hroom'.out
        rw [hrd] at this
        exact this.less (by simp)
      have hroom3 := hroom2.step ⟨2, 0, 0, 0, 0, 0⟩
      have CD := Lib.hid (fun W I H h1 h2 => do_st (w0 := w) (w := W) (I := I) (h1 := h1) (h2 := h2) q ⟨2, 0, 0, 0, 0, 0⟩ (A1 := B1) (A2 := B2) (c1 := d1) (c2 := d2) H hinv.out (hroom'.out.less (by omega)) (by decide) k1 k2)
      rw [hrc] at CD hinv' hroom3
      have hml := hl.out m (by rw [hrd]; exact List.mem_cons_self ..)
      have hsorted := hinv.out.rds
      rw [hrd] at hsorted
      have hnext : ∀ x ∈ rd, m.1 < x.1 := (List.pairwise_cons.1 hsorted).1
      have hlen2 : q.rd.length = rd.length + 1 := by rw [hrd]; rfl
      have hls2 : (q.ls ++ [(q.gv, m.1, m.2)]).length = q.ls.length + 1 := by simp
      have hb1 := hroom'.out.1
      have hg0 : q.rd.getD 0 (0, 0) = m := by rw [hrd]; rfl
      have HG0 := Lib.hid hg0
      obtain ⟨m1, m2⟩ := m
      dsimp only at hml hnext CD hinv' hroom3 hls2
      have HN := Lib.hid hnext
      have HI := Lib.hid hinv'
      have HR := Lib.hid hroom3
      have HL2 := Lib.hid hlen2
      have hl0 : (0 : Int) < (q.rd.length : Int) := by omega
      have hl1 : 0 < q.rd.length := by omega
      have hl3 : (q.rd.length : Int) ≤ (d1 : Int) := by omega
      have i1 : IntKind.i64.wrap ((q.rd.length : Int) - 1) = (rd.length : Int) := by rw [IntWalk.i64_in _ (by omega)]; omega
      have i2 : IntKind.i64.wrap ((q.ls.length : Int) + 1) = ((q.ls ++ [(q.gv, m1, m2)]).length : Int) := by rw [IntWalk.i64_in _ (by omega), hls2]; omega
      have d5 : decide (m1 ≤ l) = false := decide_eq_false (by omega)
      have HLEN := Lib.hid hlen
      have I1 := Lib.hid i1
      have I2 := Lib.hid i2
      clear hrc hrd hsorted hnext hinv' hroom3 hroom2 hroom' hl hlen2 hg0 hls2 hlen i1 i2
      go_upto_region 6 with (first
    | ((with_reducible refine here_load ?_); first | (refine wpList_load_st H rfl 30 _ rfl rfl row_Queue (by kernel_rfl) ?_) | (refine wpList_load_st H rfl 47 _ rfl rfl row_Answer (by kernel_rfl) ?_) | (refine wpList_load_st H rfl 45 _ rfl rfl row_Event (by kernel_rfl) ?_) | (refine wpList_load1_st H rfl 3 _ rfl rfl sc_int (by rfl) ?_) | (refine wpList_load1_stG H (by rfl) 3 _ rfl rfl sc_int (by rfl) ?_) | (refine wpList_load1_st H rfl 4 _ rfl rfl sc_bool (by rfl) ?_) | (refine wpList_load1_stG H (by rfl) 4 _ rfl rfl sc_bool (by rfl) ?_) | (refine wpList_load1_st H rfl 40 _ rfl rfl sc_Errno (by rfl) ?_) | (refine wpList_load1_stG H (by rfl) 40 _ rfl rfl sc_Errno (by rfl) ?_) | (refine wpList_load1_st H rfl 23 _ rfl rfl sc_Msgs (by rfl) ?_) | (refine wpList_load1_stG H (by rfl) 23 _ rfl rfl sc_Msgs (by rfl) ?_) | (refine wpList_load1_st H rfl 24 _ rfl rfl sc_Lss (by rfl) ?_) | (refine wpList_load1_stG H (by rfl) 24 _ rfl rfl sc_Lss (by rfl) ?_))
    | ((with_reducible refine here_store ?_); first | (refine wpList_store_st H rfl 30 _ _ rfl rfl rfl (by kernel_rfl) (by rfl) (by kernel_rfl) ?_; clear H; intro wx H) | (refine wpList_store_st H rfl 47 _ _ rfl rfl rfl (by kernel_rfl) (by rfl) (by kernel_rfl) ?_; clear H; intro wx H) | (refine wpList_store_st H rfl 45 _ _ rfl rfl rfl (by kernel_rfl) (by rfl) (by kernel_rfl) ?_; clear H; intro wx H) | (refine wpList_store1_st H rfl 3 _ _ rfl rfl _ rfl (by rfl) s1_int (by rfl) (by rfl) ?_; clear H; intro wx H) | (refine wpList_store1_st H rfl 4 _ _ rfl rfl _ rfl (by rfl) s1_bool (by rfl) (by rfl) ?_; clear H; intro wx H) | (refine wpList_store1_st H rfl 40 _ _ rfl rfl _ rfl (by rfl) s1_Errno (by rfl) (by rfl) ?_; clear H; intro wx H) | (refine wpList_store1_st H rfl 23 _ _ rfl rfl _ rfl (by rfl) s1_Msgs (by rfl) (by rfl) ?_; clear H; intro wx H) | (refine wpList_store1_st H rfl 24 _ _ rfl rfl _ rfl (by rfl) s1_Lss (by rfl) (by rfl) ?_; clear H; intro wx H))
    | ((with_reducible refine here_alloc ?_); first | (refine wpList_alloc_st H rfl 30 rfl _ q_zero ?_; clear H; intro gq wx H) | (refine wpList_alloc_st H rfl 47 rfl _ ans_zero ?_; clear H; intro ga wx H) | (refine wpList_alloc_st H rfl 45 rfl _ ev_zero ?_; clear H; intro ge wx H))
    | ((with_reducible refine here_box ?_); first | (refine wpList_box_st H rfl _ _ rfl _ rfl ?_; clear H; intro gb wx H)))
      go_wp2_with (first
    | ((with_reducible refine here_load ?_); first | (refine wpList_load_st H rfl 30 _ rfl rfl row_Queue (by kernel_rfl) ?_) | (refine wpList_load_st H rfl 47 _ rfl rfl row_Answer (by kernel_rfl) ?_) | (refine wpList_load_st H rfl 45 _ rfl rfl row_Event (by kernel_rfl) ?_) | (refine wpList_load1_st H rfl 3 _ rfl rfl sc_int (by rfl) ?_) | (refine wpList_load1_stG H (by rfl) 3 _ rfl rfl sc_int (by rfl) ?_) | (refine wpList_load1_st H rfl 4 _ rfl rfl sc_bool (by rfl) ?_) | (refine wpList_load1_stG H (by rfl) 4 _ rfl rfl sc_bool (by rfl) ?_) | (refine wpList_load1_st H rfl 40 _ rfl rfl sc_Errno (by rfl) ?_) | (refine wpList_load1_stG H (by rfl) 40 _ rfl rfl sc_Errno (by rfl) ?_) | (refine wpList_load1_st H rfl 23 _ rfl rfl sc_Msgs (by rfl) ?_) | (refine wpList_load1_stG H (by rfl) 23 _ rfl rfl sc_Msgs (by rfl) ?_) | (refine wpList_load1_st H rfl 24 _ rfl rfl sc_Lss (by rfl) ?_) | (refine wpList_load1_stG H (by rfl) 24 _ rfl rfl sc_Lss (by rfl) ?_))
    | ((with_reducible refine here_store ?_); first | (refine wpList_store_st H rfl 30 _ _ rfl rfl rfl (by kernel_rfl) (by rfl) (by kernel_rfl) ?_; clear H; intro wx H) | (refine wpList_store_st H rfl 47 _ _ rfl rfl rfl (by kernel_rfl) (by rfl) (by kernel_rfl) ?_; clear H; intro wx H) | (refine wpList_store_st H rfl 45 _ _ rfl rfl rfl (by kernel_rfl) (by rfl) (by kernel_rfl) ?_; clear H; intro wx H) | (refine wpList_store1_st H rfl 3 _ _ rfl rfl _ rfl (by rfl) s1_int (by rfl) (by rfl) ?_; clear H; intro wx H) | (refine wpList_store1_st H rfl 4 _ _ rfl rfl _ rfl (by rfl) s1_bool (by rfl) (by rfl) ?_; clear H; intro wx H) | (refine wpList_store1_st H rfl 40 _ _ rfl rfl _ rfl (by rfl) s1_Errno (by rfl) (by rfl) ?_; clear H; intro wx H) | (refine wpList_store1_st H rfl 23 _ _ rfl rfl _ rfl (by rfl) s1_Msgs (by rfl) (by rfl) ?_; clear H; intro wx H) | (refine wpList_store1_st H rfl 24 _ _ rfl rfl _ rfl (by rfl) s1_Lss (by rfl) (by rfl) ?_; clear H; intro wx H))
    | ((with_reducible refine here_alloc ?_); first | (refine wpList_alloc_st H rfl 30 rfl _ q_zero ?_; clear H; intro gq wx H) | (refine wpList_alloc_st H rfl 47 rfl _ ans_zero ?_; clear H; intro ga wx H) | (refine wpList_alloc_st H rfl 45 rfl _ ev_zero ?_; clear H; intro ge wx H))
    | ((with_reducible refine here_box ?_); first | (refine wpList_box_st H rfl _ _ rfl _ rfl ?_; clear H; intro gb wx H)))
      refine (CD.out _ _ H inferInstance inferInstance).mono ?_
      rintro ed wy ⟨F1, f1, F2, f2, rfl, u1, u2, H⟩
      unfold QA.val ansV
      dsimp only at H u1 u2 ⊢
      go_upto_region 7 with (first
    | ((with_reducible refine here_load ?_); first | (refine wpList_load_st H rfl 30 _ rfl rfl row_Queue (by kernel_rfl) ?_) | (refine wpList_load_st H rfl 47 _ rfl rfl row_Answer (by kernel_rfl) ?_) | (refine wpList_load_st H rfl 45 _ rfl rfl row_Event (by kernel_rfl) ?_) | (refine wpList_load1_st H rfl 3 _ rfl rfl sc_int (by rfl) ?_) | (refine wpList_load1_stG H (by rfl) 3 _ rfl rfl sc_int (by rfl) ?_) | (refine wpList_load1_st H rfl 4 _ rfl rfl sc_bool (by rfl) ?_) | (refine wpList_load1_stG H (by rfl) 4 _ rfl rfl sc_bool (by rfl) ?_) | (refine wpList_load1_st H rfl 40 _ rfl rfl sc_Errno (by rfl) ?_) | (refine wpList_load1_stG H (by rfl) 40 _ rfl rfl sc_Errno (by rfl) ?_) | (refine wpList_load1_st H rfl 23 _ rfl rfl sc_Msgs (by rfl) ?_) | (refine wpList_load1_stG H (by rfl) 23 _ rfl rfl sc_Msgs (by rfl) ?_) | (refine wpList_load1_st H rfl 24 _ rfl rfl sc_Lss (by rfl) ?_) | (refine wpList_load1_stG H (by rfl) 24 _ rfl rfl sc_Lss (by rfl) ?_))
    | ((with_reducible refine here_store ?_); first | (refine wpList_store_st H rfl 30 _ _ rfl rfl rfl (by kernel_rfl) (by rfl) (by kernel_rfl) ?_; clear H; intro wx H) | (refine wpList_store_st H rfl 47 _ _ rfl rfl rfl (by kernel_rfl) (by rfl) (by kernel_rfl) ?_; clear H; intro wx H) | (refine wpList_store_st H rfl 45 _ _ rfl rfl rfl (by kernel_rfl) (by rfl) (by kernel_rfl) ?_; clear H; intro wx H) | (refine wpList_store1_st H rfl 3 _ _ rfl rfl _ rfl (by rfl) s1_int (by rfl) (by rfl) ?_; clear H; intro wx H) | (refine wpList_store1_st H rfl 4 _ _ rfl rfl _ rfl (by rfl) s1_bool (by rfl) (by rfl) ?_; clear H; intro wx H) | (refine wpList_store1_st H rfl 40 _ _ rfl rfl _ rfl (by rfl) s1_Errno (by rfl) (by rfl) ?_; clear H; intro wx H) | (refine wpList_store1_st H rfl 23 _ _ rfl rfl _ rfl (by rfl) s1_Msgs (by rfl) (by rfl) ?_; clear H; intro wx H) | (refine wpList_store1_st H rfl 24 _ _ rfl rfl _ rfl (by rfl) s1_Lss (by rfl) (by rfl) ?_; clear H; intro wx H))
    | ((with_reducible refine here_alloc ?_); first | (refine wpList_alloc_st H rfl 30 rfl _ q_zero ?_; clear H; intro gq2 wx H) | (refine wpList_alloc_st H rfl 47 rfl _ ans_zero ?_; clear H; intro ga2 wx H) | (refine wpList_alloc_st H rfl 45 rfl _ ev_zero ?_; clear H; intro ge2 wx H))
    | ((with_reducible refine here_box ?_); first | (refine wpList_box_st H rfl _ _ rfl _ rfl ?_; clear H; intro gb2 wx H)))
      obtain ⟨b, off, hBB, hb, q0, q1⟩ := msgAt (H.get (rdIt q B1)) rfl (i := 0) hl1
      subst hBB
      rw [HG0.out] at q0 q1
      rw [show off + 0 * 2 = off by omega] at q0 q1
      obtain ⟨_, _, _, z3, z4⟩ := qArr_at q (some ⟨b, off, none⟩) d1 B2 d2
      obtain ⟨_, _, _, z5, z6⟩ := qArr_at ⟨q.ep, q.nx, q.gv + 1, rd, q.ls ++ [(q.gv, m1, m2)], q.t, q.S⟩ F1 f1 F2 f2
      have x3 := ((H.blk gq).cell 3).trans z3
      have x4 := ((H.blk gq).cell 4).trans z4
      have y3 := ((H.blk gq2).cell 3).trans z5
      have y4 := ((H.blk gq2).cell 4).trans z6
      have f0 := (H.blk ga2).cell 0
      have f2' := (H.blk ga2).cell 3
      have i1 := I1.out
      have i2 := I2.out
      dsimp only at y3 y4 i2
      clear z3 z4 z5 z6
      have HH := Lib.hid H
      clear H
      generalize (q.ls ++ [(q.gv, m1, m2)]).length = L1 at y4 i2
      go_quiet (fail)
      have H := HH.out.drewN nq
      clear HH x3 x4 y3 y4 f0 f2' i1 i2
      go_wp2_with (first
    | ((with_reducible refine here_load ?_); first | (refine wpList_load_st H rfl 30 _ rfl rfl row_Queue (by kernel_rfl) ?_) | (refine wpList_load_st H rfl 47 _ rfl rfl row_Answer (by kernel_rfl) ?_) | (refine wpList_load_st H rfl 45 _ rfl rfl row_Event (by kernel_rfl) ?_) | (refine wpList_load1_st H rfl 3 _ rfl rfl sc_int (by rfl) ?_) | (refine wpList_load1_stG H (by rfl) 3 _ rfl rfl sc_int (by rfl) ?_) | (refine wpList_load1_st H rfl 4 _ rfl rfl sc_bool (by rfl) ?_) | (refine wpList_load1_stG H (by rfl) 4 _ rfl rfl sc_bool (by rfl) ?_) | (refine wpList_load1_st H rfl 40 _ rfl rfl sc_Errno (by rfl) ?_) | (refine wpList_load1_stG H (by rfl) 40 _ rfl rfl sc_Errno (by rfl) ?_) | (refine wpList_load1_st H rfl 23 _ rfl rfl sc_Msgs (by rfl) ?_) | (refine wpList_load1_stG H (by rfl) 23 _ rfl rfl sc_Msgs (by rfl) ?_) | (refine wpList_load1_st H rfl 24 _ rfl rfl sc_Lss (by rfl) ?_) | (refine wpList_load1_stG H (by rfl) 24 _ rfl rfl sc_Lss (by rfl) ?_))
    | ((with_reducible refine here_store ?_); first | (refine wpList_store_st H rfl 30 _ _ rfl rfl rfl (by kernel_rfl) (by rfl) (by kernel_rfl) ?_; clear H; intro wx H) | (refine wpList_store_st H rfl 47 _ _ rfl rfl rfl (by kernel_rfl) (by rfl) (by kernel_rfl) ?_; clear H; intro wx H) | (refine wpList_store_st H rfl 45 _ _ rfl rfl rfl (by kernel_rfl) (by rfl) (by kernel_rfl) ?_; clear H; intro wx H) | (refine wpList_store1_st H rfl 3 _ _ rfl rfl _ rfl (by rfl) s1_int (by rfl) (by rfl) ?_; clear H; intro wx H) | (refine wpList_store1_st H rfl 4 _ _ rfl rfl _ rfl (by rfl) s1_bool (by rfl) (by rfl) ?_; clear H; intro wx H) | (refine wpList_store1_st H rfl 40 _ _ rfl rfl _ rfl (by rfl) s1_Errno (by rfl) (by rfl) ?_; clear H; intro wx H) | (refine wpList_store1_st H rfl 23 _ _ rfl rfl _ rfl (by rfl) s1_Msgs (by rfl) (by rfl) ?_; clear H; intro wx H) | (refine wpList_store1_st H rfl 24 _ _ rfl rfl _ rfl (by rfl) s1_Lss (by rfl) (by rfl) ?_; clear H; intro wx H))
    | ((with_reducible refine here_alloc ?_); first | (refine wpList_alloc_st H rfl 30 rfl _ q_zero ?_; clear H; intro gq2 wx H) | (refine wpList_alloc_st H rfl 47 rfl _ ans_zero ?_; clear H; intro ga2 wx H) | (refine wpList_alloc_st H rfl 45 rfl _ ev_zero ?_; clear H; intro ge2 wx H))
    | ((with_reducible refine here_box ?_); first | (refine wpList_box_st H rfl _ _ rfl _ rfl ?_; clear H; intro gb2 wx H)))
      go_roundw
      case rel => exact ⟨⟨q.ep, q.nx, q.gv + 1, rd, q.ls ++ [(q.gv, m1, m2)], q.t, q.S⟩, m1, rfl, rfl, HI.out, HR.out, HN.out, F1, f1, F2, f2, u1, u2, H.subm _⟩
      case measure =>
        have := HLEN.out
        rw [this]
        unfold lenAt
        rw [((H.blk gq).cell 3).trans (qArr_at ⟨q.ep, q.nx, q.gv + 1, rd, q.ls ++ [(q.gv, m1, m2)], q.t, q.S⟩ F1 f1 F2 f2).2.2.2.1]
        have := HL2.out
        dsimp only
        omega

end Go.Proofs.Ytkolmpeghnkjkaa
