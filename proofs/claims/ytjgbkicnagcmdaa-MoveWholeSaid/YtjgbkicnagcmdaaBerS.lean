/- Berths: Serve. -/
import Derived.Test.YtjgbkicnagcmdaaBerO
namespace Go.Proofs.Ytjgbkicnagcmdaa
open Go.RowKit

/-- what Serve answers to an event that is no break -/
def SPost (w0 : World) (I : List It) (r : BM × QA × Bool) (ed : Ending) (w' : World) : Prop :=
  ∃ A c, ed = .returned (.tuple #[.agg (bArr r.1 A r.1.es.length c), r.2.1.val, .bool r.2.2, .int .i64 0]) ∧ r.1.es.length ≤ c ∧ St w0 w' (evIt A r.1.es :: I)
theorem SPost.mk {w0 w : World} {I : List It} {r : BM × QA × Bool} {A : Option Addr} {n c : Nat} (hn : r.1.es.length = n) (hc : n ≤ c) (H : St w0 w (evIt A r.1.es :: I)) :
    SPost w0 I r (.returned (.tuple #[.agg (bArr r.1 A n c), r.2.1.val, .bool r.2.2, .int .i64 0])) w := by
  subst hn
  exact ⟨A, c, rfl, hc, H⟩
set_option maxRecDepth 100000 in
set_option maxHeartbeats 8000000 in
theorem serve_0 {w0 w : World} {I : List It} (be bf bd br : Int) (es : List Ev) (e : Ev) (A : Option Addr) (n c m : Nat) (hl : es.length = n) (hb : (⟨0, be, bf, bd, br, es⟩ : BM).Ok m) (hm : m ≤ 149) (hc : n ≤ c) (he : e.check = 0) (hk : e.kind ≠ 4) (H : St w0 w I) [h : Has I (evIt A es)] :
    Calls Try.prog 21 #[.agg (bArr ⟨0, be, bf, bd, br, es⟩ A n c), e.val] w (SPost w0 I ((⟨0, be, bf, bd, br, es⟩ : BM).serve e)) := by
  have hn : n ≤ 150 := by have := hb.len; have : n ≤ m := hl ▸ this; omega
  replace hm : m ≤ 150 := by omega
  have HI := Lib.hid h
  have HB := Lib.hid hb
  have HL := Lib.hid hl
  have HS2 := Lib.hid hb.shape
  have CC := Lib.hid (fun W => ((check_any e.kind e.prod e.id e.body e.hep e.hno W).mono (fun ed w' h => (⟨by rw [h.1]; exact congrArg (fun z => Ending.returned (.int .i64 z)) he, h.2⟩ : ed = .returned (.int .i64 0) ∧ Below W.heap.size W w'))))
  have HE := Lib.hid he
  clear h hb hl he
  obtain ⟨e0, e1, e2, e3, e4, e5⟩ := e
  unfold Ev.val bArr
  dsimp only at CC hk ⊢
  have k1 : ((e0 : Int) == 4) = false := by simp; exact hk
  have k2 : decide ((e0 : Int) = 4) = false := by simp; exact hk
  clear hk
  have hR : (⟨0, be, bf, bd, br, es⟩ : BM).serve ⟨e0, e1, e2, e3, e4, e5⟩ = (⟨0, be, bf, bd, br, es⟩, ⟨7, 0, 0, 0⟩, false) := by
    (unfold BM.serve; dsimp only; repeat (first | rw [if_pos (by omega)] | rw [if_neg (by omega)]); try rfl)
  rw [hR]
  clear hR
  have HF := Lib.hid (fun W A' c' (h1 : n ≤ c') (h2 : St w0 W (evIt A' (es) :: I)) => (SPost.mk (r := (⟨0, be, bf, bd, br, es⟩, ⟨7, 0, 0, 0⟩, false)) HL.out h1 h2 : SPost w0 I (⟨0, be, bf, bd, br, es⟩, ⟨7, 0, 0, 0⟩, false) (.returned (.tuple #[.agg #[.int .i64 0, .int .i64 be, .int .i64 bf, .int .i64 bd, .int .i64 br, .slice A' (n) c'], .agg #[.int .i64 7, .int .i64 0, .int .i64 0, .int .i64 0], .bool false, .int .i64 0])) W))
  generalize SPost w0 I (⟨0, be, bf, bd, br, es⟩, ⟨7, 0, 0, 0⟩, false) = POST at *
  go_enter Try.func21, Try.ntmps21
  go_wp2_with (first | ((with_reducible refine here_box ?_); first | (refine wpList_box_st H rfl 27 _ rfl _ rfl ?_; clear H; intro gb wx H) | (refine wpList_box_st H rfl 37 _ rfl _ rfl ?_; clear H; intro gx wx H)) | (go_at_call 38; refine (CC.out _).mono ?_; rintro ed w9 ⟨rfl, hb9⟩; replace H := H.below hb9; clear hb9) | (go_at_call 33; have h := HI.out; refine (check_st ⟨0, be, bf, bd, br, es⟩ A n c m HL.out HB.out hm hc H).mono ?_; clear H h; rintro ed wy ⟨rfl, H⟩) | (go_at_call 45; refine (serving_st ⟨0, be, bf, bd, br, es⟩ A n c HS2.out H).mono ?_; clear H; rintro ed wy ⟨rfl, H⟩) | (go_at_call 35; have h := HI.out; refine (with_nil ⟨0, be, bf, bd, br, es⟩ A n c HL.out hn hc H).mono ?_; clear H h; rintro ed wy ⟨A9, c9, rfl, hc9, H⟩) | (first
      | ((with_reducible refine here_load ?_); first | (refine wpList_load_st H rfl 46 _ rfl rfl row_Queue (by kernel_rfl) ?_) | (refine wpList_load_st H rfl 50 _ rfl rfl row_Answer (by kernel_rfl) ?_) | (refine wpList_load_st H rfl 37 _ rfl rfl row_Event (by kernel_rfl) ?_) | (refine wpList_load_st H rfl 27 _ rfl rfl row_Berth (by kernel_rfl) ?_) | (refine wpList_load1_st H rfl 3 _ rfl rfl sc_int (by rfl) ?_) | (refine wpList_load1_stG H (by rfl) 3 _ rfl rfl sc_int (by rfl) ?_) | (refine wpList_load1_st H rfl 4 _ rfl rfl sc_bool (by rfl) ?_) | (refine wpList_load1_stG H (by rfl) 4 _ rfl rfl sc_bool (by rfl) ?_) | (refine wpList_load1_st H rfl 30 _ rfl rfl sc_Errno (by rfl) ?_) | (refine wpList_load1_stG H (by rfl) 30 _ rfl rfl sc_Errno (by rfl) ?_) | (refine wpList_load1_st H rfl 25 _ rfl rfl sc_Evs (by rfl) ?_) | (refine wpList_load1_stG H (by rfl) 25 _ rfl rfl sc_Evs (by rfl) ?_))
      | ((with_reducible refine here_store ?_); first | (refine wpList_store_st H rfl 46 _ _ rfl rfl rfl (by kernel_rfl) (by rfl) (by kernel_rfl) ?_; clear H; intro wx H) | (refine wpList_store_st H rfl 50 _ _ rfl rfl rfl (by kernel_rfl) (by rfl) (by kernel_rfl) ?_; clear H; intro wx H) | (refine wpList_store_st H rfl 37 _ _ rfl rfl rfl (by kernel_rfl) (by rfl) (by kernel_rfl) ?_; clear H; intro wx H) | (refine wpList_store_st H rfl 27 _ _ rfl rfl rfl (by kernel_rfl) (by rfl) (by kernel_rfl) ?_; clear H; intro wx H) | (refine wpList_store1_st H rfl 3 _ _ rfl rfl _ rfl (by rfl) s1_int (by rfl) (by rfl) ?_; clear H; intro wx H) | (refine wpList_store1_st H rfl 4 _ _ rfl rfl _ rfl (by rfl) s1_bool (by rfl) (by rfl) ?_; clear H; intro wx H) | (refine wpList_store1_st H rfl 30 _ _ rfl rfl _ rfl (by rfl) s1_Errno (by rfl) (by rfl) ?_; clear H; intro wx H) | (refine wpList_store1_st H rfl 25 _ _ rfl rfl _ rfl (by rfl) s1_Evs (by rfl) (by rfl) ?_; clear H; intro wx H))
      | ((with_reducible refine here_alloc ?_); first | (refine wpList_alloc_st H rfl 46 rfl _ q_zero ?_; clear H; intro gq wx H) | (refine wpList_alloc_st H rfl 50 rfl _ ans_zero ?_; clear H; intro ga wx H) | (refine wpList_alloc_st H rfl 37 rfl _ ev_zero ?_; clear H; intro ge wx H) | (refine wpList_alloc_st H rfl 27 rfl _ ber_zero ?_; clear H; intro gr wx H))
      | ((with_reducible refine here_box ?_); first | (refine wpList_box_st H rfl _ _ rfl _ rfl ?_; clear H; intro gb wx H))))
  have l4 : (loadVar 27 ⟨gr, 0, none⟩).run Try.prog wx = .ok (.agg #[.int .i64 0, .int .i64 be, .int .i64 bf, .int .i64 bd, .int .i64 br, .slice A9 n c9]) wx := H.loadRow 27 gr row_Berth (P := Try.prog) (by kernel_rfl)
  have l5 : (loadVar 50 ⟨ga, 0, none⟩).run Try.prog wx = .ok (.agg #[.int .i64 7, .int .i64 0, .int .i64 0, .int .i64 0]) wx := H.loadRow 50 ga row_Answer (P := Try.prog) (by kernel_rfl)
  exact bodyPost_ret (v := .tuple #[.agg #[.int .i64 0, .int .i64 be, .int .i64 bf, .int .i64 bd, .int .i64 br, .slice A9 n c9], .agg #[.int .i64 7, .int .i64 0, .int .i64 0, .int .i64 0], .bool false, .int .i64 0]) (by simp [results, Try.results21, asAddr, l4, l5]) rfl (HF.out _ _ _ hc9 (H.subm _))
set_option maxRecDepth 100000 in
set_option maxHeartbeats 8000000 in
theorem serve_3 {w0 w : World} {I : List It} (be bf bd br : Int) (es : List Ev) (e : Ev) (A : Option Addr) (n c m : Nat) (hl : es.length = n) (hb : (⟨3, be, bf, bd, br, es⟩ : BM).Ok m) (hm : m ≤ 149) (hc : n ≤ c) (he : e.check = 0) (hk : e.kind ≠ 4) (H : St w0 w I) [h : Has I (evIt A es)] :
    Calls Try.prog 21 #[.agg (bArr ⟨3, be, bf, bd, br, es⟩ A n c), e.val] w (SPost w0 I ((⟨3, be, bf, bd, br, es⟩ : BM).serve e)) := by
  have hn : n ≤ 150 := by have := hb.len; have : n ≤ m := hl ▸ this; omega
  replace hm : m ≤ 150 := by omega
  have HI := Lib.hid h
  have HB := Lib.hid hb
  have HL := Lib.hid hl
  have HS2 := Lib.hid hb.shape
  have CC := Lib.hid (fun W => ((check_any e.kind e.prod e.id e.body e.hep e.hno W).mono (fun ed w' h => (⟨by rw [h.1]; exact congrArg (fun z => Ending.returned (.int .i64 z)) he, h.2⟩ : ed = .returned (.int .i64 0) ∧ Below W.heap.size W w'))))
  have HE := Lib.hid he
  clear h hb hl he
  obtain ⟨e0, e1, e2, e3, e4, e5⟩ := e
  unfold Ev.val bArr
  dsimp only at CC hk ⊢
  have k1 : ((e0 : Int) == 4) = false := by simp; exact hk
  have k2 : decide ((e0 : Int) = 4) = false := by simp; exact hk
  clear hk
  have hR : (⟨3, be, bf, bd, br, es⟩ : BM).serve ⟨e0, e1, e2, e3, e4, e5⟩ = (⟨3, be, bf, bd, br, es⟩, ⟨12, 0, 0, 0⟩, false) := by
    (unfold BM.serve; dsimp only; repeat (first | rw [if_pos (by omega)] | rw [if_neg (by omega)]); try rfl)
  rw [hR]
  clear hR
  have HF := Lib.hid (fun W A' c' (h1 : n ≤ c') (h2 : St w0 W (evIt A' (es) :: I)) => (SPost.mk (r := (⟨3, be, bf, bd, br, es⟩, ⟨12, 0, 0, 0⟩, false)) HL.out h1 h2 : SPost w0 I (⟨3, be, bf, bd, br, es⟩, ⟨12, 0, 0, 0⟩, false) (.returned (.tuple #[.agg #[.int .i64 3, .int .i64 be, .int .i64 bf, .int .i64 bd, .int .i64 br, .slice A' (n) c'], .agg #[.int .i64 12, .int .i64 0, .int .i64 0, .int .i64 0], .bool false, .int .i64 0])) W))
  generalize SPost w0 I (⟨3, be, bf, bd, br, es⟩, ⟨12, 0, 0, 0⟩, false) = POST at *
  go_enter Try.func21, Try.ntmps21
  go_wp2_with (first | ((with_reducible refine here_box ?_); first | (refine wpList_box_st H rfl 27 _ rfl _ rfl ?_; clear H; intro gb wx H) | (refine wpList_box_st H rfl 37 _ rfl _ rfl ?_; clear H; intro gx wx H)) | (go_at_call 38; refine (CC.out _).mono ?_; rintro ed w9 ⟨rfl, hb9⟩; replace H := H.below hb9; clear hb9) | (go_at_call 33; have h := HI.out; refine (check_st ⟨3, be, bf, bd, br, es⟩ A n c m HL.out HB.out hm hc H).mono ?_; clear H h; rintro ed wy ⟨rfl, H⟩) | (go_at_call 45; refine (serving_st ⟨3, be, bf, bd, br, es⟩ A n c HS2.out H).mono ?_; clear H; rintro ed wy ⟨rfl, H⟩) | (go_at_call 35; have h := HI.out; refine (with_nil ⟨3, be, bf, bd, br, es⟩ A n c HL.out hn hc H).mono ?_; clear H h; rintro ed wy ⟨A9, c9, rfl, hc9, H⟩) | (first
      | ((with_reducible refine here_load ?_); first | (refine wpList_load_st H rfl 46 _ rfl rfl row_Queue (by kernel_rfl) ?_) | (refine wpList_load_st H rfl 50 _ rfl rfl row_Answer (by kernel_rfl) ?_) | (refine wpList_load_st H rfl 37 _ rfl rfl row_Event (by kernel_rfl) ?_) | (refine wpList_load_st H rfl 27 _ rfl rfl row_Berth (by kernel_rfl) ?_) | (refine wpList_load1_st H rfl 3 _ rfl rfl sc_int (by rfl) ?_) | (refine wpList_load1_stG H (by rfl) 3 _ rfl rfl sc_int (by rfl) ?_) | (refine wpList_load1_st H rfl 4 _ rfl rfl sc_bool (by rfl) ?_) | (refine wpList_load1_stG H (by rfl) 4 _ rfl rfl sc_bool (by rfl) ?_) | (refine wpList_load1_st H rfl 30 _ rfl rfl sc_Errno (by rfl) ?_) | (refine wpList_load1_stG H (by rfl) 30 _ rfl rfl sc_Errno (by rfl) ?_) | (refine wpList_load1_st H rfl 25 _ rfl rfl sc_Evs (by rfl) ?_) | (refine wpList_load1_stG H (by rfl) 25 _ rfl rfl sc_Evs (by rfl) ?_))
      | ((with_reducible refine here_store ?_); first | (refine wpList_store_st H rfl 46 _ _ rfl rfl rfl (by kernel_rfl) (by rfl) (by kernel_rfl) ?_; clear H; intro wx H) | (refine wpList_store_st H rfl 50 _ _ rfl rfl rfl (by kernel_rfl) (by rfl) (by kernel_rfl) ?_; clear H; intro wx H) | (refine wpList_store_st H rfl 37 _ _ rfl rfl rfl (by kernel_rfl) (by rfl) (by kernel_rfl) ?_; clear H; intro wx H) | (refine wpList_store_st H rfl 27 _ _ rfl rfl rfl (by kernel_rfl) (by rfl) (by kernel_rfl) ?_; clear H; intro wx H) | (refine wpList_store1_st H rfl 3 _ _ rfl rfl _ rfl (by rfl) s1_int (by rfl) (by rfl) ?_; clear H; intro wx H) | (refine wpList_store1_st H rfl 4 _ _ rfl rfl _ rfl (by rfl) s1_bool (by rfl) (by rfl) ?_; clear H; intro wx H) | (refine wpList_store1_st H rfl 30 _ _ rfl rfl _ rfl (by rfl) s1_Errno (by rfl) (by rfl) ?_; clear H; intro wx H) | (refine wpList_store1_st H rfl 25 _ _ rfl rfl _ rfl (by rfl) s1_Evs (by rfl) (by rfl) ?_; clear H; intro wx H))
      | ((with_reducible refine here_alloc ?_); first | (refine wpList_alloc_st H rfl 46 rfl _ q_zero ?_; clear H; intro gq wx H) | (refine wpList_alloc_st H rfl 50 rfl _ ans_zero ?_; clear H; intro ga wx H) | (refine wpList_alloc_st H rfl 37 rfl _ ev_zero ?_; clear H; intro ge wx H) | (refine wpList_alloc_st H rfl 27 rfl _ ber_zero ?_; clear H; intro gr wx H))
      | ((with_reducible refine here_box ?_); first | (refine wpList_box_st H rfl _ _ rfl _ rfl ?_; clear H; intro gb wx H))))
  have l4 : (loadVar 27 ⟨gr, 0, none⟩).run Try.prog wx = .ok (.agg #[.int .i64 3, .int .i64 be, .int .i64 bf, .int .i64 bd, .int .i64 br, .slice A9 n c9]) wx := H.loadRow 27 gr row_Berth (P := Try.prog) (by kernel_rfl)
  have l5 : (loadVar 50 ⟨ga, 0, none⟩).run Try.prog wx = .ok (.agg #[.int .i64 12, .int .i64 0, .int .i64 0, .int .i64 0]) wx := H.loadRow 50 ga row_Answer (P := Try.prog) (by kernel_rfl)
  exact bodyPost_ret (v := .tuple #[.agg #[.int .i64 3, .int .i64 be, .int .i64 bf, .int .i64 bd, .int .i64 br, .slice A9 n c9], .agg #[.int .i64 12, .int .i64 0, .int .i64 0, .int .i64 0], .bool false, .int .i64 0]) (by simp [results, Try.results21, asAddr, l4, l5]) rfl (HF.out _ _ _ hc9 (H.subm _))
set_option maxRecDepth 100000 in
set_option maxHeartbeats 8000000 in
theorem serve_4 {w0 w : World} {I : List It} (be bf bd br : Int) (es : List Ev) (e : Ev) (A : Option Addr) (n c m : Nat) (hl : es.length = n) (hb : (⟨4, be, bf, bd, br, es⟩ : BM).Ok m) (hm : m ≤ 149) (hc : n ≤ c) (he : e.check = 0) (hk : e.kind ≠ 4) (H : St w0 w I) [h : Has I (evIt A es)] :
    Calls Try.prog 21 #[.agg (bArr ⟨4, be, bf, bd, br, es⟩ A n c), e.val] w (SPost w0 I ((⟨4, be, bf, bd, br, es⟩ : BM).serve e)) := by
  have hn : n ≤ 150 := by have := hb.len; have : n ≤ m := hl ▸ this; omega
  replace hm : m ≤ 150 := by omega
  have HI := Lib.hid h
  have HB := Lib.hid hb
  have HL := Lib.hid hl
  have HS2 := Lib.hid hb.shape
  have CC := Lib.hid (fun W => ((check_any e.kind e.prod e.id e.body e.hep e.hno W).mono (fun ed w' h => (⟨by rw [h.1]; exact congrArg (fun z => Ending.returned (.int .i64 z)) he, h.2⟩ : ed = .returned (.int .i64 0) ∧ Below W.heap.size W w'))))
  have HE := Lib.hid he
  clear h hb hl he
  obtain ⟨e0, e1, e2, e3, e4, e5⟩ := e
  unfold Ev.val bArr
  dsimp only at CC hk ⊢
  have k1 : ((e0 : Int) == 4) = false := by simp; exact hk
  have k2 : decide ((e0 : Int) = 4) = false := by simp; exact hk
  clear hk
  have hR : (⟨4, be, bf, bd, br, es⟩ : BM).serve ⟨e0, e1, e2, e3, e4, e5⟩ = (⟨4, be, bf, bd, br, es⟩, ⟨7, 0, 0, 0⟩, false) := by
    (unfold BM.serve; dsimp only; repeat (first | rw [if_pos (by omega)] | rw [if_neg (by omega)]); try rfl)
  rw [hR]
  clear hR
  have HF := Lib.hid (fun W A' c' (h1 : n ≤ c') (h2 : St w0 W (evIt A' (es) :: I)) => (SPost.mk (r := (⟨4, be, bf, bd, br, es⟩, ⟨7, 0, 0, 0⟩, false)) HL.out h1 h2 : SPost w0 I (⟨4, be, bf, bd, br, es⟩, ⟨7, 0, 0, 0⟩, false) (.returned (.tuple #[.agg #[.int .i64 4, .int .i64 be, .int .i64 bf, .int .i64 bd, .int .i64 br, .slice A' (n) c'], .agg #[.int .i64 7, .int .i64 0, .int .i64 0, .int .i64 0], .bool false, .int .i64 0])) W))
  generalize SPost w0 I (⟨4, be, bf, bd, br, es⟩, ⟨7, 0, 0, 0⟩, false) = POST at *
  go_enter Try.func21, Try.ntmps21
  go_wp2_with (first | ((with_reducible refine here_box ?_); first | (refine wpList_box_st H rfl 27 _ rfl _ rfl ?_; clear H; intro gb wx H) | (refine wpList_box_st H rfl 37 _ rfl _ rfl ?_; clear H; intro gx wx H)) | (go_at_call 38; refine (CC.out _).mono ?_; rintro ed w9 ⟨rfl, hb9⟩; replace H := H.below hb9; clear hb9) | (go_at_call 33; have h := HI.out; refine (check_st ⟨4, be, bf, bd, br, es⟩ A n c m HL.out HB.out hm hc H).mono ?_; clear H h; rintro ed wy ⟨rfl, H⟩) | (go_at_call 45; refine (serving_st ⟨4, be, bf, bd, br, es⟩ A n c HS2.out H).mono ?_; clear H; rintro ed wy ⟨rfl, H⟩) | (go_at_call 35; have h := HI.out; refine (with_nil ⟨4, be, bf, bd, br, es⟩ A n c HL.out hn hc H).mono ?_; clear H h; rintro ed wy ⟨A9, c9, rfl, hc9, H⟩) | (first
      | ((with_reducible refine here_load ?_); first | (refine wpList_load_st H rfl 46 _ rfl rfl row_Queue (by kernel_rfl) ?_) | (refine wpList_load_st H rfl 50 _ rfl rfl row_Answer (by kernel_rfl) ?_) | (refine wpList_load_st H rfl 37 _ rfl rfl row_Event (by kernel_rfl) ?_) | (refine wpList_load_st H rfl 27 _ rfl rfl row_Berth (by kernel_rfl) ?_) | (refine wpList_load1_st H rfl 3 _ rfl rfl sc_int (by rfl) ?_) | (refine wpList_load1_stG H (by rfl) 3 _ rfl rfl sc_int (by rfl) ?_) | (refine wpList_load1_st H rfl 4 _ rfl rfl sc_bool (by rfl) ?_) | (refine wpList_load1_stG H (by rfl) 4 _ rfl rfl sc_bool (by rfl) ?_) | (refine wpList_load1_st H rfl 30 _ rfl rfl sc_Errno (by rfl) ?_) | (refine wpList_load1_stG H (by rfl) 30 _ rfl rfl sc_Errno (by rfl) ?_) | (refine wpList_load1_st H rfl 25 _ rfl rfl sc_Evs (by rfl) ?_) | (refine wpList_load1_stG H (by rfl) 25 _ rfl rfl sc_Evs (by rfl) ?_))
      | ((with_reducible refine here_store ?_); first | (refine wpList_store_st H rfl 46 _ _ rfl rfl rfl (by kernel_rfl) (by rfl) (by kernel_rfl) ?_; clear H; intro wx H) | (refine wpList_store_st H rfl 50 _ _ rfl rfl rfl (by kernel_rfl) (by rfl) (by kernel_rfl) ?_; clear H; intro wx H) | (refine wpList_store_st H rfl 37 _ _ rfl rfl rfl (by kernel_rfl) (by rfl) (by kernel_rfl) ?_; clear H; intro wx H) | (refine wpList_store_st H rfl 27 _ _ rfl rfl rfl (by kernel_rfl) (by rfl) (by kernel_rfl) ?_; clear H; intro wx H) | (refine wpList_store1_st H rfl 3 _ _ rfl rfl _ rfl (by rfl) s1_int (by rfl) (by rfl) ?_; clear H; intro wx H) | (refine wpList_store1_st H rfl 4 _ _ rfl rfl _ rfl (by rfl) s1_bool (by rfl) (by rfl) ?_; clear H; intro wx H) | (refine wpList_store1_st H rfl 30 _ _ rfl rfl _ rfl (by rfl) s1_Errno (by rfl) (by rfl) ?_; clear H; intro wx H) | (refine wpList_store1_st H rfl 25 _ _ rfl rfl _ rfl (by rfl) s1_Evs (by rfl) (by rfl) ?_; clear H; intro wx H))
      | ((with_reducible refine here_alloc ?_); first | (refine wpList_alloc_st H rfl 46 rfl _ q_zero ?_; clear H; intro gq wx H) | (refine wpList_alloc_st H rfl 50 rfl _ ans_zero ?_; clear H; intro ga wx H) | (refine wpList_alloc_st H rfl 37 rfl _ ev_zero ?_; clear H; intro ge wx H) | (refine wpList_alloc_st H rfl 27 rfl _ ber_zero ?_; clear H; intro gr wx H))
      | ((with_reducible refine here_box ?_); first | (refine wpList_box_st H rfl _ _ rfl _ rfl ?_; clear H; intro gb wx H))))
  have l4 : (loadVar 27 ⟨gr, 0, none⟩).run Try.prog wx = .ok (.agg #[.int .i64 4, .int .i64 be, .int .i64 bf, .int .i64 bd, .int .i64 br, .slice A9 n c9]) wx := H.loadRow 27 gr row_Berth (P := Try.prog) (by kernel_rfl)
  have l5 : (loadVar 50 ⟨ga, 0, none⟩).run Try.prog wx = .ok (.agg #[.int .i64 7, .int .i64 0, .int .i64 0, .int .i64 0]) wx := H.loadRow 50 ga row_Answer (P := Try.prog) (by kernel_rfl)
  exact bodyPost_ret (v := .tuple #[.agg #[.int .i64 4, .int .i64 be, .int .i64 bf, .int .i64 bd, .int .i64 br, .slice A9 n c9], .agg #[.int .i64 7, .int .i64 0, .int .i64 0, .int .i64 0], .bool false, .int .i64 0]) (by simp [results, Try.results21, asAddr, l4, l5]) rfl (HF.out _ _ _ hc9 (H.subm _))
set_option maxRecDepth 100000 in
set_option maxHeartbeats 8000000 in
theorem serve_1 {w0 w : World} {I : List It} (be bf bd br : Int) (es : List Ev) (e : Ev) (A : Option Addr) (n c m : Nat) (hl : es.length = n) (hb : (⟨1, be, bf, bd, br, es⟩ : BM).Ok m) (hm : m ≤ 149) (hc : n ≤ c) (he : e.check = 0) (hk : e.kind ≠ 4) (H : St w0 w I) [h : Has I (evIt A es)] :
    Calls Try.prog 21 #[.agg (bArr ⟨1, be, bf, bd, br, es⟩ A n c), e.val] w (SPost w0 I ((⟨1, be, bf, bd, br, es⟩ : BM).serve e)) := by
  have hn : n ≤ 150 := by have := hb.len; have : n ≤ m := hl ▸ this; omega
  replace hm : m ≤ 150 := by omega
  have HI := Lib.hid h
  have HB := Lib.hid hb
  have HL := Lib.hid hl
  have HS2 := Lib.hid hb.shape
  have CC := Lib.hid (fun W => ((check_any e.kind e.prod e.id e.body e.hep e.hno W).mono (fun ed w' h => (⟨by rw [h.1]; exact congrArg (fun z => Ending.returned (.int .i64 z)) he, h.2⟩ : ed = .returned (.int .i64 0) ∧ Below W.heap.size W w'))))
  have HE := Lib.hid he
  clear h hb hl he
  obtain ⟨e0, e1, e2, e3, e4, e5⟩ := e
  unfold Ev.val bArr
  dsimp only at CC hk ⊢
  have k1 : ((e0 : Int) == 4) = false := by simp; exact hk
  have k2 : decide ((e0 : Int) = 4) = false := by simp; exact hk
  clear hk
  obtain ⟨hqi, hqr⟩ := HB.out.queue (m := 1) (by omega)
  have HR := Lib.hid (fun W J H h => replay_any (w0 := w0) (w := W) (I := J) (he := h) es A n c HL.out H HB.out.chk hn hc)
  have CD := Lib.hid (fun W J A1 c1 A2 c2 H h1 h2 k1 k2 => do_st (w0 := w0) (w := W) (I := J) (h1 := h1) (h2 := h2) (rq es) ⟨e0, e1, e2, e3, e4, e5⟩ (A1 := A1) (A2 := A2) (c1 := c1) (c2 := c2) H hqi hqr HE.out k1 k2)
  obtain ⟨rf0, hrf⟩ : ∃ x, rf es = x := ⟨_, rfl⟩
  rw [hrf] at HR
  have hR : (⟨1, be, bf, bd, br, es⟩ : BM).serve ⟨e0, e1, e2, e3, e4, e5⟩ = (if ((rq es).step ⟨e0, e1, e2, e3, e4, e5⟩).2.2 then ((⟨1, be, bf, bd, br, es ++ [⟨e0, e1, e2, e3, e4, e5⟩]⟩ : BM), ((rq es).step ⟨e0, e1, e2, e3, e4, e5⟩).2.1, true) else (⟨1, be, bf, bd, br, es⟩, ((rq es).step ⟨e0, e1, e2, e3, e4, e5⟩).2.1, false)) := by
    (unfold BM.serve; dsimp only; rw [if_neg (by omega), if_pos (by omega)])
  rw [hR]
  clear hR hqi hqr hrf
  generalize rq es = q at *
  generalize q.step ⟨e0, e1, e2, e3, e4, e5⟩ = st at *
  obtain ⟨q', ⟨a0, a1, a2, a3⟩, chg⟩ := st
  simp only [QA.val, ansV] at CD
  dsimp only at CD ⊢
  have hn2 : ¬ (1999 : Int) ≤ (n : Int) := by omega
  have hn3 : decide ((1999 : Int) ≤ (n : Int)) = false := decide_eq_false hn2
  cases chg
  · rw [if_neg (by decide)]
    have HF := Lib.hid (fun W A' c' (h1 : n ≤ c') (h2 : St w0 W (evIt A' (es) :: I)) => (SPost.mk (r := (⟨1, be, bf, bd, br, es⟩, ⟨a0, a1, a2, a3⟩, false)) HL.out h1 h2 : SPost w0 I (⟨1, be, bf, bd, br, es⟩, ⟨a0, a1, a2, a3⟩, false) (.returned (.tuple #[.agg #[.int .i64 1, .int .i64 be, .int .i64 bf, .int .i64 bd, .int .i64 br, .slice A' (n) c'], .agg #[.int .i64 a0, .int .i64 a1, .int .i64 a2, .int .i64 a3], .bool false, .int .i64 0])) W))
    generalize SPost w0 I (⟨1, be, bf, bd, br, es⟩, ⟨a0, a1, a2, a3⟩, false) = POST at *
    go_enter Try.func21, Try.ntmps21
    go_upto_region 14 with (first | ((with_reducible refine here_box ?_); first | (refine wpList_box_st H rfl 27 _ rfl _ rfl ?_; clear H; intro gb wx H) | (refine wpList_box_st H rfl 37 _ rfl _ rfl ?_; clear H; intro gx wx H)) | (go_at_call 38; refine (CC.out _).mono ?_; rintro ed w9 ⟨rfl, hb9⟩; replace H := H.below hb9; clear hb9) | (go_at_call 33; have h := HI.out; refine (check_st ⟨1, be, bf, bd, br, es⟩ A n c m HL.out HB.out hm hc H).mono ?_; clear H h; rintro ed wy ⟨rfl, H⟩) | (go_at_call 45; refine (serving_st ⟨1, be, bf, bd, br, es⟩ A n c HS2.out H).mono ?_; clear H; rintro ed wy ⟨rfl, H⟩) | (go_at_call 19; have h := HI.out; refine (HR.out _ _ H inferInstance).mono ?_; clear H h; rintro ed wy ⟨A1, c1, A2, c2, rfl, v1, v2, H⟩) | (first
      | ((with_reducible refine here_load ?_); first | (refine wpList_load_st H rfl 46 _ rfl rfl row_Queue (by kernel_rfl) ?_) | (refine wpList_load_st H rfl 50 _ rfl rfl row_Answer (by kernel_rfl) ?_) | (refine wpList_load_st H rfl 37 _ rfl rfl row_Event (by kernel_rfl) ?_) | (refine wpList_load_st H rfl 27 _ rfl rfl row_Berth (by kernel_rfl) ?_) | (refine wpList_load1_st H rfl 3 _ rfl rfl sc_int (by rfl) ?_) | (refine wpList_load1_stG H (by rfl) 3 _ rfl rfl sc_int (by rfl) ?_) | (refine wpList_load1_st H rfl 4 _ rfl rfl sc_bool (by rfl) ?_) | (refine wpList_load1_stG H (by rfl) 4 _ rfl rfl sc_bool (by rfl) ?_) | (refine wpList_load1_st H rfl 30 _ rfl rfl sc_Errno (by rfl) ?_) | (refine wpList_load1_stG H (by rfl) 30 _ rfl rfl sc_Errno (by rfl) ?_) | (refine wpList_load1_st H rfl 25 _ rfl rfl sc_Evs (by rfl) ?_) | (refine wpList_load1_stG H (by rfl) 25 _ rfl rfl sc_Evs (by rfl) ?_))
      | ((with_reducible refine here_store ?_); first | (refine wpList_store_st H rfl 46 _ _ rfl rfl rfl (by kernel_rfl) (by rfl) (by kernel_rfl) ?_; clear H; intro wx H) | (refine wpList_store_st H rfl 50 _ _ rfl rfl rfl (by kernel_rfl) (by rfl) (by kernel_rfl) ?_; clear H; intro wx H) | (refine wpList_store_st H rfl 37 _ _ rfl rfl rfl (by kernel_rfl) (by rfl) (by kernel_rfl) ?_; clear H; intro wx H) | (refine wpList_store_st H rfl 27 _ _ rfl rfl rfl (by kernel_rfl) (by rfl) (by kernel_rfl) ?_; clear H; intro wx H) | (refine wpList_store1_st H rfl 3 _ _ rfl rfl _ rfl (by rfl) s1_int (by rfl) (by rfl) ?_; clear H; intro wx H) | (refine wpList_store1_st H rfl 4 _ _ rfl rfl _ rfl (by rfl) s1_bool (by rfl) (by rfl) ?_; clear H; intro wx H) | (refine wpList_store1_st H rfl 30 _ _ rfl rfl _ rfl (by rfl) s1_Errno (by rfl) (by rfl) ?_; clear H; intro wx H) | (refine wpList_store1_st H rfl 25 _ _ rfl rfl _ rfl (by rfl) s1_Evs (by rfl) (by rfl) ?_; clear H; intro wx H))
      | ((with_reducible refine here_alloc ?_); first | (refine wpList_alloc_st H rfl 46 rfl _ q_zero ?_; clear H; intro gq wx H) | (refine wpList_alloc_st H rfl 50 rfl _ ans_zero ?_; clear H; intro ga wx H) | (refine wpList_alloc_st H rfl 37 rfl _ ev_zero ?_; clear H; intro ge wx H) | (refine wpList_alloc_st H rfl 27 rfl _ ber_zero ?_; clear H; intro gr wx H))
      | ((with_reducible refine here_box ?_); first | (refine wpList_box_st H rfl _ _ rfl _ rfl ?_; clear H; intro gb wx H))))
    go_upto_region 16 with (first | (go_at_call 20; refine (CD.out _ _ _ _ _ _ H inferInstance inferInstance v1 v2).mono ?_; clear H; rintro ed wy ⟨G1, y1, G2, y2, rfl, u1, u2, H⟩) | (first
      | ((with_reducible refine here_load ?_); first | (refine wpList_load_st H rfl 46 _ rfl rfl row_Queue (by kernel_rfl) ?_) | (refine wpList_load_st H rfl 50 _ rfl rfl row_Answer (by kernel_rfl) ?_) | (refine wpList_load_st H rfl 37 _ rfl rfl row_Event (by kernel_rfl) ?_) | (refine wpList_load_st H rfl 27 _ rfl rfl row_Berth (by kernel_rfl) ?_) | (refine wpList_load1_st H rfl 3 _ rfl rfl sc_int (by rfl) ?_) | (refine wpList_load1_stG H (by rfl) 3 _ rfl rfl sc_int (by rfl) ?_) | (refine wpList_load1_st H rfl 4 _ rfl rfl sc_bool (by rfl) ?_) | (refine wpList_load1_stG H (by rfl) 4 _ rfl rfl sc_bool (by rfl) ?_) | (refine wpList_load1_st H rfl 30 _ rfl rfl sc_Errno (by rfl) ?_) | (refine wpList_load1_stG H (by rfl) 30 _ rfl rfl sc_Errno (by rfl) ?_) | (refine wpList_load1_st H rfl 25 _ rfl rfl sc_Evs (by rfl) ?_) | (refine wpList_load1_stG H (by rfl) 25 _ rfl rfl sc_Evs (by rfl) ?_))
      | ((with_reducible refine here_store ?_); first | (refine wpList_store_st H rfl 46 _ _ rfl rfl rfl (by kernel_rfl) (by rfl) (by kernel_rfl) ?_; clear H; intro wx H) | (refine wpList_store_st H rfl 50 _ _ rfl rfl rfl (by kernel_rfl) (by rfl) (by kernel_rfl) ?_; clear H; intro wx H) | (refine wpList_store_st H rfl 37 _ _ rfl rfl rfl (by kernel_rfl) (by rfl) (by kernel_rfl) ?_; clear H; intro wx H) | (refine wpList_store_st H rfl 27 _ _ rfl rfl rfl (by kernel_rfl) (by rfl) (by kernel_rfl) ?_; clear H; intro wx H) | (refine wpList_store1_st H rfl 3 _ _ rfl rfl _ rfl (by rfl) s1_int (by rfl) (by rfl) ?_; clear H; intro wx H) | (refine wpList_store1_st H rfl 4 _ _ rfl rfl _ rfl (by rfl) s1_bool (by rfl) (by rfl) ?_; clear H; intro wx H) | (refine wpList_store1_st H rfl 30 _ _ rfl rfl _ rfl (by rfl) s1_Errno (by rfl) (by rfl) ?_; clear H; intro wx H) | (refine wpList_store1_st H rfl 25 _ _ rfl rfl _ rfl (by rfl) s1_Evs (by rfl) (by rfl) ?_; clear H; intro wx H))
      | ((with_reducible refine here_alloc ?_); first | (refine wpList_alloc_st H rfl 46 rfl _ q_zero ?_; clear H; intro gq2 wx H) | (refine wpList_alloc_st H rfl 50 rfl _ ans_zero ?_; clear H; intro ga2 wx H) | (refine wpList_alloc_st H rfl 37 rfl _ ev_zero ?_; clear H; intro ge2 wx H) | (refine wpList_alloc_st H rfl 27 rfl _ ber_zero ?_; clear H; intro gr2 wx H))
      | ((with_reducible refine here_box ?_); first | (refine wpList_box_st H rfl _ _ rfl _ rfl ?_; clear H; intro gb2 wx H))))
    (try simp only [Act.put])
    refine startS (H.subm (.bl gb 27 #[.int .i64 1, .int .i64 be, .int .i64 bf, .int .i64 bd, .int .i64 br, .slice A n c] :: .bl gx 37 #[.int .i64 e0, .int .i64 e1, .int .i64 e2, .int .i64 e3, .int .i64 e4, .int .i64 e5] :: .bl ga2 50 #[.int .i64 a0, .int .i64 a1, .int .i64 a2, .int .i64 a3] :: I)) (by kernel_rfl) (fun HS => ?_)
    replace H := H.drew
    refine takeRow_st (i := 0) 27 _ rfl rfl rfl row_Berth (by kernel_rfl) (by kernel_rfl) (by kernel_rfl) (by kernel_rfl) (fun _ _ _ _ h => h) (by rfl) HS ?_
    (try simp only [Act.put, List.setIfInBounds_toArray, List.set_cons_zero, List.set_cons_succ])
    refine takeRow_st (i := 2) 50 _ rfl rfl rfl row_Answer (by kernel_rfl) (by kernel_rfl) (by kernel_rfl) (by kernel_rfl) (fun _ _ _ _ h => h) (by rfl) HS ?_
    (try simp only [Act.put, List.setIfInBounds_toArray, List.set_cons_zero, List.set_cons_succ])
    refine branchH [1] (by kernel_rfl) (by kernel_rfl) (AllStep.cons ?_ AllStep.nil)
    refine stepH_do (i := 1) rfl (by rfl) ?_
    have h := HI.out
    refine wp_call_st rfl Try.func35 (by kernel_rfl) (by kernel_rfl) _ ?_ ((with_nil ⟨1, be, bf, bd, br, es⟩ A n c HL.out hn hc H).mono ?_)
    · rfl
    clear H h
    rintro ed wy ⟨A9, c9, rfl, hc9, H⟩
    replace HS := HS.of H
    refine ⟨_, rfl, HS, ?_⟩
    (try simp only [Act.put, List.setIfInBounds_toArray, List.set_cons_zero, List.set_cons_succ])
    refine branchH [3] (by kernel_rfl) (by kernel_rfl) (AllStep.cons ?_ AllStep.nil)
    refine stepH_do (i := 3) rfl (by rfl) ?_
    refine wp_store_st H 27 _ _ rfl rfl rfl (by kernel_rfl) (by rfl) (by kernel_rfl) ?_
    clear H
    intro wx H
    replace HS := HS.of H
    refine ⟨HS, ?_⟩
    (try simp only [Act.put])
    refine branchH [4] (by kernel_rfl) (by kernel_rfl) (AllStep.cons ?_ AllStep.nil)
    refine stepH_do (i := 4) rfl (by rfl) ?_
    refine wp_store_st H 50 _ _ rfl rfl rfl (by kernel_rfl) (by rfl) (by kernel_rfl) ?_
    clear H
    intro wx H
    replace HS := HS.of H
    refine ⟨HS, ?_⟩
    (try simp only [Act.put])
    refine takeV (i := 5) (v := ?_) rfl (by kernel_rfl) (by kernel_rfl) (by kernel_rfl) (fun _ _ _ h => h) (by rfl) ?_ HS ?_
    rotate_left
    · (intro W hW; go_simp; try with_reducible rfl)
    (try simp only [Act.put, List.setIfInBounds_toArray, List.set_cons_zero, List.set_cons_succ])
    refine takeV (i := 6) (v := ?_) rfl (by kernel_rfl) (by kernel_rfl) (by kernel_rfl) (fun _ _ _ h => h) (by rfl) ?_ HS ?_
    rotate_left
    · (intro W hW; go_simp; try with_reducible rfl)
    (try simp only [Act.put, List.setIfInBounds_toArray, List.set_cons_zero, List.set_cons_succ])
    refine doneH (by kernel_rfl) ?_
    go_wp2_with fail
    have l4 : (loadVar 27 ⟨gr, 0, none⟩).run Try.prog wx = .ok (.agg #[.int .i64 1, .int .i64 be, .int .i64 bf, .int .i64 bd, .int .i64 br, .slice A9 n c9]) wx := H.loadRow 27 gr row_Berth (P := Try.prog) (by kernel_rfl)
    have l5 : (loadVar 50 ⟨ga, 0, none⟩).run Try.prog wx = .ok (.agg #[.int .i64 a0, .int .i64 a1, .int .i64 a2, .int .i64 a3]) wx := H.loadRow 50 ga row_Answer (P := Try.prog) (by kernel_rfl)
    exact bodyPost_ret (v := .tuple #[.agg #[.int .i64 1, .int .i64 be, .int .i64 bf, .int .i64 bd, .int .i64 br, .slice A9 n c9], .agg #[.int .i64 a0, .int .i64 a1, .int .i64 a2, .int .i64 a3], .bool false, .int .i64 0]) (by simp [results, Try.results21, asAddr, l4, l5]) rfl (HF.out _ _ _ hc9 (H.subm _))
  · rw [if_pos rfl]
    have HF := Lib.hid (fun W A' c' (h1 : n + 1 ≤ c') (h2 : St w0 W (evIt A' (es ++ [⟨e0, e1, e2, e3, e4, e5⟩]) :: I)) => (SPost.mk (r := ((⟨1, be, bf, bd, br, es ++ [⟨e0, e1, e2, e3, e4, e5⟩]⟩ : BM), ⟨a0, a1, a2, a3⟩, true)) (by rw [List.length_append, HL.out]; rfl) h1 h2 : SPost w0 I ((⟨1, be, bf, bd, br, es ++ [⟨e0, e1, e2, e3, e4, e5⟩]⟩ : BM), ⟨a0, a1, a2, a3⟩, true) (.returned (.tuple #[.agg #[.int .i64 1, .int .i64 be, .int .i64 bf, .int .i64 bd, .int .i64 br, .slice A' (n + 1) c'], .agg #[.int .i64 a0, .int .i64 a1, .int .i64 a2, .int .i64 a3], .bool true, .int .i64 0])) W))
    generalize SPost w0 I ((⟨1, be, bf, bd, br, es ++ [⟨e0, e1, e2, e3, e4, e5⟩]⟩ : BM), ⟨a0, a1, a2, a3⟩, true) = POST at *
    go_enter Try.func21, Try.ntmps21
    go_upto_region 14 with (first | ((with_reducible refine here_box ?_); first | (refine wpList_box_st H rfl 27 _ rfl _ rfl ?_; clear H; intro gb wx H) | (refine wpList_box_st H rfl 37 _ rfl _ rfl ?_; clear H; intro gx wx H)) | (go_at_call 38; refine (CC.out _).mono ?_; rintro ed w9 ⟨rfl, hb9⟩; replace H := H.below hb9; clear hb9) | (go_at_call 33; have h := HI.out; refine (check_st ⟨1, be, bf, bd, br, es⟩ A n c m HL.out HB.out hm hc H).mono ?_; clear H h; rintro ed wy ⟨rfl, H⟩) | (go_at_call 45; refine (serving_st ⟨1, be, bf, bd, br, es⟩ A n c HS2.out H).mono ?_; clear H; rintro ed wy ⟨rfl, H⟩) | (go_at_call 19; have h := HI.out; refine (HR.out _ _ H inferInstance).mono ?_; clear H h; rintro ed wy ⟨A1, c1, A2, c2, rfl, v1, v2, H⟩) | (first
      | ((with_reducible refine here_load ?_); first | (refine wpList_load_st H rfl 46 _ rfl rfl row_Queue (by kernel_rfl) ?_) | (refine wpList_load_st H rfl 50 _ rfl rfl row_Answer (by kernel_rfl) ?_) | (refine wpList_load_st H rfl 37 _ rfl rfl row_Event (by kernel_rfl) ?_) | (refine wpList_load_st H rfl 27 _ rfl rfl row_Berth (by kernel_rfl) ?_) | (refine wpList_load1_st H rfl 3 _ rfl rfl sc_int (by rfl) ?_) | (refine wpList_load1_stG H (by rfl) 3 _ rfl rfl sc_int (by rfl) ?_) | (refine wpList_load1_st H rfl 4 _ rfl rfl sc_bool (by rfl) ?_) | (refine wpList_load1_stG H (by rfl) 4 _ rfl rfl sc_bool (by rfl) ?_) | (refine wpList_load1_st H rfl 30 _ rfl rfl sc_Errno (by rfl) ?_) | (refine wpList_load1_stG H (by rfl) 30 _ rfl rfl sc_Errno (by rfl) ?_) | (refine wpList_load1_st H rfl 25 _ rfl rfl sc_Evs (by rfl) ?_) | (refine wpList_load1_stG H (by rfl) 25 _ rfl rfl sc_Evs (by rfl) ?_))
      | ((with_reducible refine here_store ?_); first | (refine wpList_store_st H rfl 46 _ _ rfl rfl rfl (by kernel_rfl) (by rfl) (by kernel_rfl) ?_; clear H; intro wx H) | (refine wpList_store_st H rfl 50 _ _ rfl rfl rfl (by kernel_rfl) (by rfl) (by kernel_rfl) ?_; clear H; intro wx H) | (refine wpList_store_st H rfl 37 _ _ rfl rfl rfl (by kernel_rfl) (by rfl) (by kernel_rfl) ?_; clear H; intro wx H) | (refine wpList_store_st H rfl 27 _ _ rfl rfl rfl (by kernel_rfl) (by rfl) (by kernel_rfl) ?_; clear H; intro wx H) | (refine wpList_store1_st H rfl 3 _ _ rfl rfl _ rfl (by rfl) s1_int (by rfl) (by rfl) ?_; clear H; intro wx H) | (refine wpList_store1_st H rfl 4 _ _ rfl rfl _ rfl (by rfl) s1_bool (by rfl) (by rfl) ?_; clear H; intro wx H) | (refine wpList_store1_st H rfl 30 _ _ rfl rfl _ rfl (by rfl) s1_Errno (by rfl) (by rfl) ?_; clear H; intro wx H) | (refine wpList_store1_st H rfl 25 _ _ rfl rfl _ rfl (by rfl) s1_Evs (by rfl) (by rfl) ?_; clear H; intro wx H))
      | ((with_reducible refine here_alloc ?_); first | (refine wpList_alloc_st H rfl 46 rfl _ q_zero ?_; clear H; intro gq wx H) | (refine wpList_alloc_st H rfl 50 rfl _ ans_zero ?_; clear H; intro ga wx H) | (refine wpList_alloc_st H rfl 37 rfl _ ev_zero ?_; clear H; intro ge wx H) | (refine wpList_alloc_st H rfl 27 rfl _ ber_zero ?_; clear H; intro gr wx H))
      | ((with_reducible refine here_box ?_); first | (refine wpList_box_st H rfl _ _ rfl _ rfl ?_; clear H; intro gb wx H))))
    go_upto_region 19 with (first | (go_at_call 20; refine (CD.out _ _ _ _ _ _ H inferInstance inferInstance v1 v2).mono ?_; clear H; rintro ed wy ⟨G1, y1, G2, y2, rfl, u1, u2, H⟩) | (first
      | ((with_reducible refine here_load ?_); first | (refine wpList_load_st H rfl 46 _ rfl rfl row_Queue (by kernel_rfl) ?_) | (refine wpList_load_st H rfl 50 _ rfl rfl row_Answer (by kernel_rfl) ?_) | (refine wpList_load_st H rfl 37 _ rfl rfl row_Event (by kernel_rfl) ?_) | (refine wpList_load_st H rfl 27 _ rfl rfl row_Berth (by kernel_rfl) ?_) | (refine wpList_load1_st H rfl 3 _ rfl rfl sc_int (by rfl) ?_) | (refine wpList_load1_stG H (by rfl) 3 _ rfl rfl sc_int (by rfl) ?_) | (refine wpList_load1_st H rfl 4 _ rfl rfl sc_bool (by rfl) ?_) | (refine wpList_load1_stG H (by rfl) 4 _ rfl rfl sc_bool (by rfl) ?_) | (refine wpList_load1_st H rfl 30 _ rfl rfl sc_Errno (by rfl) ?_) | (refine wpList_load1_stG H (by rfl) 30 _ rfl rfl sc_Errno (by rfl) ?_) | (refine wpList_load1_st H rfl 25 _ rfl rfl sc_Evs (by rfl) ?_) | (refine wpList_load1_stG H (by rfl) 25 _ rfl rfl sc_Evs (by rfl) ?_))
      | ((with_reducible refine here_store ?_); first | (refine wpList_store_st H rfl 46 _ _ rfl rfl rfl (by kernel_rfl) (by rfl) (by kernel_rfl) ?_; clear H; intro wx H) | (refine wpList_store_st H rfl 50 _ _ rfl rfl rfl (by kernel_rfl) (by rfl) (by kernel_rfl) ?_; clear H; intro wx H) | (refine wpList_store_st H rfl 37 _ _ rfl rfl rfl (by kernel_rfl) (by rfl) (by kernel_rfl) ?_; clear H; intro wx H) | (refine wpList_store_st H rfl 27 _ _ rfl rfl rfl (by kernel_rfl) (by rfl) (by kernel_rfl) ?_; clear H; intro wx H) | (refine wpList_store1_st H rfl 3 _ _ rfl rfl _ rfl (by rfl) s1_int (by rfl) (by rfl) ?_; clear H; intro wx H) | (refine wpList_store1_st H rfl 4 _ _ rfl rfl _ rfl (by rfl) s1_bool (by rfl) (by rfl) ?_; clear H; intro wx H) | (refine wpList_store1_st H rfl 30 _ _ rfl rfl _ rfl (by rfl) s1_Errno (by rfl) (by rfl) ?_; clear H; intro wx H) | (refine wpList_store1_st H rfl 25 _ _ rfl rfl _ rfl (by rfl) s1_Evs (by rfl) (by rfl) ?_; clear H; intro wx H))
      | ((with_reducible refine here_alloc ?_); first | (refine wpList_alloc_st H rfl 46 rfl _ q_zero ?_; clear H; intro gq2 wx H) | (refine wpList_alloc_st H rfl 50 rfl _ ans_zero ?_; clear H; intro ga2 wx H) | (refine wpList_alloc_st H rfl 37 rfl _ ev_zero ?_; clear H; intro ge2 wx H) | (refine wpList_alloc_st H rfl 27 rfl _ ber_zero ?_; clear H; intro gr2 wx H))
      | ((with_reducible refine here_box ?_); first | (refine wpList_box_st H rfl _ _ rfl _ rfl ?_; clear H; intro gb2 wx H))))
    (try simp only [Act.put])
    refine startS (H.subm (.bl gb 27 #[.int .i64 1, .int .i64 be, .int .i64 bf, .int .i64 bd, .int .i64 br, .slice A n c] :: .bl gx 37 #[.int .i64 e0, .int .i64 e1, .int .i64 e2, .int .i64 e3, .int .i64 e4, .int .i64 e5] :: .bl ga2 50 #[.int .i64 a0, .int .i64 a1, .int .i64 a2, .int .i64 a3] :: I)) (by kernel_rfl) (fun HS => ?_)
    replace H := H.drew
    refine takeRow_st (i := 0) 27 _ rfl rfl rfl row_Berth (by kernel_rfl) (by kernel_rfl) (by kernel_rfl) (by kernel_rfl) (fun _ _ _ _ h => h) (by rfl) HS ?_
    (try simp only [Act.put, List.setIfInBounds_toArray, List.set_cons_zero, List.set_cons_succ])
    refine takeRow_st (i := 1) 37 _ rfl rfl rfl row_Event (by kernel_rfl) (by kernel_rfl) (by kernel_rfl) (by kernel_rfl) (fun _ _ _ _ h => h) (by rfl) HS ?_
    (try simp only [Act.put, List.setIfInBounds_toArray, List.set_cons_zero, List.set_cons_succ])
    refine takeRow_st (i := 4) 50 _ rfl rfl rfl row_Answer (by kernel_rfl) (by kernel_rfl) (by kernel_rfl) (by kernel_rfl) (fun _ _ _ _ h => h) (by rfl) HS ?_
    (try simp only [Act.put, List.setIfInBounds_toArray, List.set_cons_zero, List.set_cons_succ])
    refine branchH [2] (by kernel_rfl) (by kernel_rfl) (AllStep.cons ?_ AllStep.nil)
    refine stepH_do (i := 2) rfl (by rfl) ?_
    refine wp_buildSlice1_st H 25 _ rfl 37 Try.underlying25 _ rfl _ ev_info2 (by rfl) (by rfl) ?_
    clear H
    intro gs wx H
    replace H := H.oneEv
    replace HS := HS.of H
    refine ⟨HS, ?_⟩
    (try simp only [Act.put, List.setIfInBounds_toArray, List.set_cons_zero, List.set_cons_succ])
    refine branchH [3] (by kernel_rfl) (by kernel_rfl) (AllStep.cons ?_ AllStep.nil)
    refine stepH_do (i := 3) rfl (by rfl) ?_
    have h := HI.out
    refine wp_call_st rfl Try.func35 (by kernel_rfl) (by kernel_rfl) _ ?_ ((with_st ⟨1, be, bf, bd, br, es⟩ [⟨e0, e1, e2, e3, e4, e5⟩] A (some ⟨gs, 0, none⟩) n c 1 1 HL.out rfl hn (by omega) hc H).mono ?_)
    · rfl
    clear H h
    rintro ed wy ⟨A9, c9, rfl, hc9, H⟩
    replace HS := HS.of H
    refine ⟨_, rfl, HS, ?_⟩
    (try simp only [Act.put, List.setIfInBounds_toArray, List.set_cons_zero, List.set_cons_succ])
    refine branchH [5] (by kernel_rfl) (by kernel_rfl) (AllStep.cons ?_ AllStep.nil)
    refine stepH_do (i := 5) rfl (by rfl) ?_
    refine wp_store_st H 27 _ _ rfl rfl rfl (by kernel_rfl) (by rfl) (by kernel_rfl) ?_
    clear H
    intro wx H
    replace HS := HS.of H
    refine ⟨HS, ?_⟩
    (try simp only [Act.put])
    refine branchH [6] (by kernel_rfl) (by kernel_rfl) (AllStep.cons ?_ AllStep.nil)
    refine stepH_do (i := 6) rfl (by rfl) ?_
    refine wp_store_st H 50 _ _ rfl rfl rfl (by kernel_rfl) (by rfl) (by kernel_rfl) ?_
    clear H
    intro wx H
    replace HS := HS.of H
    refine ⟨HS, ?_⟩
    (try simp only [Act.put])
    refine takeV (i := 7) (v := ?_) rfl (by kernel_rfl) (by kernel_rfl) (by kernel_rfl) (fun _ _ _ h => h) (by rfl) ?_ HS ?_
    rotate_left
    · (intro W hW; go_simp; try with_reducible rfl)
    (try simp only [Act.put, List.setIfInBounds_toArray, List.set_cons_zero, List.set_cons_succ])
    refine takeV (i := 8) (v := ?_) rfl (by kernel_rfl) (by kernel_rfl) (by kernel_rfl) (fun _ _ _ h => h) (by rfl) ?_ HS ?_
    rotate_left
    · (intro W hW; go_simp; try with_reducible rfl)
    (try simp only [Act.put, List.setIfInBounds_toArray, List.set_cons_zero, List.set_cons_succ])
    refine doneH (by kernel_rfl) ?_
    go_wp2_with fail
    have l4 : (loadVar 27 ⟨gr, 0, none⟩).run Try.prog wx = .ok (.agg #[.int .i64 1, .int .i64 be, .int .i64 bf, .int .i64 bd, .int .i64 br, .slice A9 (n + 1) c9]) wx := H.loadRow 27 gr row_Berth (P := Try.prog) (by kernel_rfl)
    have l5 : (loadVar 50 ⟨ga, 0, none⟩).run Try.prog wx = .ok (.agg #[.int .i64 a0, .int .i64 a1, .int .i64 a2, .int .i64 a3]) wx := H.loadRow 50 ga row_Answer (P := Try.prog) (by kernel_rfl)
    exact bodyPost_ret (v := .tuple #[.agg #[.int .i64 1, .int .i64 be, .int .i64 bf, .int .i64 bd, .int .i64 br, .slice A9 (n + 1) c9], .agg #[.int .i64 a0, .int .i64 a1, .int .i64 a2, .int .i64 a3], .bool true, .int .i64 0]) (by simp [results, Try.results21, asAddr, l4, l5]) rfl (HF.out _ _ _ hc9 (H.subm _))
set_option maxRecDepth 100000 in
set_option maxHeartbeats 8000000 in
theorem serve_2 {w0 w : World} {I : List It} (be bf bd br : Int) (es : List Ev) (e : Ev) (A : Option Addr) (n c m : Nat) (hl : es.length = n) (hb : (⟨2, be, bf, bd, br, es⟩ : BM).Ok m) (hm : m ≤ 149) (hc : n ≤ c) (he : e.check = 0) (hk : e.kind ≠ 4) (H : St w0 w I) [h : Has I (evIt A es)] :
    Calls Try.prog 21 #[.agg (bArr ⟨2, be, bf, bd, br, es⟩ A n c), e.val] w (SPost w0 I ((⟨2, be, bf, bd, br, es⟩ : BM).serve e)) := by
  have hn : n ≤ 150 := by have := hb.len; have : n ≤ m := hl ▸ this; omega
  replace hm : m ≤ 150 := by omega
  have HI := Lib.hid h
  have HB := Lib.hid hb
  have HL := Lib.hid hl
  have HS2 := Lib.hid hb.shape
  have CC := Lib.hid (fun W => ((check_any e.kind e.prod e.id e.body e.hep e.hno W).mono (fun ed w' h => (⟨by rw [h.1]; exact congrArg (fun z => Ending.returned (.int .i64 z)) he, h.2⟩ : ed = .returned (.int .i64 0) ∧ Below W.heap.size W w'))))
  have HE := Lib.hid he
  clear h hb hl he
  obtain ⟨e0, e1, e2, e3, e4, e5⟩ := e
  unfold Ev.val bArr
  dsimp only at CC hk ⊢
  have k1 : ((e0 : Int) == 4) = false := by simp; exact hk
  have k2 : decide ((e0 : Int) = 4) = false := by simp; exact hk
  clear hk
  obtain ⟨hqi, hqr⟩ := HB.out.queue (m := 1) (by omega)
  have HR := Lib.hid (fun W J H h => replay_any (w0 := w0) (w := W) (I := J) (he := h) es A n c HL.out H HB.out.chk hn hc)
  have CD := Lib.hid (fun W J A1 c1 A2 c2 H h1 h2 k1 k2 => do_st (w0 := w0) (w := W) (I := J) (h1 := h1) (h2 := h2) (rq es) ⟨e0, e1, e2, e3, e4, e5⟩ (A1 := A1) (A2 := A2) (c1 := c1) (c2 := c2) H hqi hqr HE.out k1 k2)
  obtain ⟨rf0, hrf⟩ : ∃ x, rf es = x := ⟨_, rfl⟩
  rw [hrf] at HR
  have hR : (⟨2, be, bf, bd, br, es⟩ : BM).serve ⟨e0, e1, e2, e3, e4, e5⟩ = (if ((rq es).step ⟨e0, e1, e2, e3, e4, e5⟩).2.2 then ((⟨2, be, bf, bd, br, es ++ [⟨e0, e1, e2, e3, e4, e5⟩]⟩ : BM), ((rq es).step ⟨e0, e1, e2, e3, e4, e5⟩).2.1, true) else (⟨2, be, bf, bd, br, es⟩, ((rq es).step ⟨e0, e1, e2, e3, e4, e5⟩).2.1, false)) := by
    (unfold BM.serve; dsimp only; rw [if_neg (by omega), if_pos (by omega)])
  rw [hR]
  clear hR hqi hqr hrf
  generalize rq es = q at *
  generalize q.step ⟨e0, e1, e2, e3, e4, e5⟩ = st at *
  obtain ⟨q', ⟨a0, a1, a2, a3⟩, chg⟩ := st
  simp only [QA.val, ansV] at CD
  dsimp only at CD ⊢
  have hn2 : ¬ (1999 : Int) ≤ (n : Int) := by omega
  have hn3 : decide ((1999 : Int) ≤ (n : Int)) = false := decide_eq_false hn2
  cases chg
  · rw [if_neg (by decide)]
    have HF := Lib.hid (fun W A' c' (h1 : n ≤ c') (h2 : St w0 W (evIt A' (es) :: I)) => (SPost.mk (r := (⟨2, be, bf, bd, br, es⟩, ⟨a0, a1, a2, a3⟩, false)) HL.out h1 h2 : SPost w0 I (⟨2, be, bf, bd, br, es⟩, ⟨a0, a1, a2, a3⟩, false) (.returned (.tuple #[.agg #[.int .i64 2, .int .i64 be, .int .i64 bf, .int .i64 bd, .int .i64 br, .slice A' (n) c'], .agg #[.int .i64 a0, .int .i64 a1, .int .i64 a2, .int .i64 a3], .bool false, .int .i64 0])) W))
    generalize SPost w0 I (⟨2, be, bf, bd, br, es⟩, ⟨a0, a1, a2, a3⟩, false) = POST at *
    go_enter Try.func21, Try.ntmps21
    go_upto_region 14 with (first | ((with_reducible refine here_box ?_); first | (refine wpList_box_st H rfl 27 _ rfl _ rfl ?_; clear H; intro gb wx H) | (refine wpList_box_st H rfl 37 _ rfl _ rfl ?_; clear H; intro gx wx H)) | (go_at_call 38; refine (CC.out _).mono ?_; rintro ed w9 ⟨rfl, hb9⟩; replace H := H.below hb9; clear hb9) | (go_at_call 33; have h := HI.out; refine (check_st ⟨2, be, bf, bd, br, es⟩ A n c m HL.out HB.out hm hc H).mono ?_; clear H h; rintro ed wy ⟨rfl, H⟩) | (go_at_call 45; refine (serving_st ⟨2, be, bf, bd, br, es⟩ A n c HS2.out H).mono ?_; clear H; rintro ed wy ⟨rfl, H⟩) | (go_at_call 19; have h := HI.out; refine (HR.out _ _ H inferInstance).mono ?_; clear H h; rintro ed wy ⟨A1, c1, A2, c2, rfl, v1, v2, H⟩) | (first
      | ((with_reducible refine here_load ?_); first | (refine wpList_load_st H rfl 46 _ rfl rfl row_Queue (by kernel_rfl) ?_) | (refine wpList_load_st H rfl 50 _ rfl rfl row_Answer (by kernel_rfl) ?_) | (refine wpList_load_st H rfl 37 _ rfl rfl row_Event (by kernel_rfl) ?_) | (refine wpList_load_st H rfl 27 _ rfl rfl row_Berth (by kernel_rfl) ?_) | (refine wpList_load1_st H rfl 3 _ rfl rfl sc_int (by rfl) ?_) | (refine wpList_load1_stG H (by rfl) 3 _ rfl rfl sc_int (by rfl) ?_) | (refine wpList_load1_st H rfl 4 _ rfl rfl sc_bool (by rfl) ?_) | (refine wpList_load1_stG H (by rfl) 4 _ rfl rfl sc_bool (by rfl) ?_) | (refine wpList_load1_st H rfl 30 _ rfl rfl sc_Errno (by rfl) ?_) | (refine wpList_load1_stG H (by rfl) 30 _ rfl rfl sc_Errno (by rfl) ?_) | (refine wpList_load1_st H rfl 25 _ rfl rfl sc_Evs (by rfl) ?_) | (refine wpList_load1_stG H (by rfl) 25 _ rfl rfl sc_Evs (by rfl) ?_))
      | ((with_reducible refine here_store ?_); first | (refine wpList_store_st H rfl 46 _ _ rfl rfl rfl (by kernel_rfl) (by rfl) (by kernel_rfl) ?_; clear H; intro wx H) | (refine wpList_store_st H rfl 50 _ _ rfl rfl rfl (by kernel_rfl) (by rfl) (by kernel_rfl) ?_; clear H; intro wx H) | (refine wpList_store_st H rfl 37 _ _ rfl rfl rfl (by kernel_rfl) (by rfl) (by kernel_rfl) ?_; clear H; intro wx H) | (refine wpList_store_st H rfl 27 _ _ rfl rfl rfl (by kernel_rfl) (by rfl) (by kernel_rfl) ?_; clear H; intro wx H) | (refine wpList_store1_st H rfl 3 _ _ rfl rfl _ rfl (by rfl) s1_int (by rfl) (by rfl) ?_; clear H; intro wx H) | (refine wpList_store1_st H rfl 4 _ _ rfl rfl _ rfl (by rfl) s1_bool (by rfl) (by rfl) ?_; clear H; intro wx H) | (refine wpList_store1_st H rfl 30 _ _ rfl rfl _ rfl (by rfl) s1_Errno (by rfl) (by rfl) ?_; clear H; intro wx H) | (refine wpList_store1_st H rfl 25 _ _ rfl rfl _ rfl (by rfl) s1_Evs (by rfl) (by rfl) ?_; clear H; intro wx H))
      | ((with_reducible refine here_alloc ?_); first | (refine wpList_alloc_st H rfl 46 rfl _ q_zero ?_; clear H; intro gq wx H) | (refine wpList_alloc_st H rfl 50 rfl _ ans_zero ?_; clear H; intro ga wx H) | (refine wpList_alloc_st H rfl 37 rfl _ ev_zero ?_; clear H; intro ge wx H) | (refine wpList_alloc_st H rfl 27 rfl _ ber_zero ?_; clear H; intro gr wx H))
      | ((with_reducible refine here_box ?_); first | (refine wpList_box_st H rfl _ _ rfl _ rfl ?_; clear H; intro gb wx H))))
    go_upto_region 16 with (first | (go_at_call 20; refine (CD.out _ _ _ _ _ _ H inferInstance inferInstance v1 v2).mono ?_; clear H; rintro ed wy ⟨G1, y1, G2, y2, rfl, u1, u2, H⟩) | (first
      | ((with_reducible refine here_load ?_); first | (refine wpList_load_st H rfl 46 _ rfl rfl row_Queue (by kernel_rfl) ?_) | (refine wpList_load_st H rfl 50 _ rfl rfl row_Answer (by kernel_rfl) ?_) | (refine wpList_load_st H rfl 37 _ rfl rfl row_Event (by kernel_rfl) ?_) | (refine wpList_load_st H rfl 27 _ rfl rfl row_Berth (by kernel_rfl) ?_) | (refine wpList_load1_st H rfl 3 _ rfl rfl sc_int (by rfl) ?_) | (refine wpList_load1_stG H (by rfl) 3 _ rfl rfl sc_int (by rfl) ?_) | (refine wpList_load1_st H rfl 4 _ rfl rfl sc_bool (by rfl) ?_) | (refine wpList_load1_stG H (by rfl) 4 _ rfl rfl sc_bool (by rfl) ?_) | (refine wpList_load1_st H rfl 30 _ rfl rfl sc_Errno (by rfl) ?_) | (refine wpList_load1_stG H (by rfl) 30 _ rfl rfl sc_Errno (by rfl) ?_) | (refine wpList_load1_st H rfl 25 _ rfl rfl sc_Evs (by rfl) ?_) | (refine wpList_load1_stG H (by rfl) 25 _ rfl rfl sc_Evs (by rfl) ?_))
      | ((with_reducible refine here_store ?_); first | (refine wpList_store_st H rfl 46 _ _ rfl rfl rfl (by kernel_rfl) (by rfl) (by kernel_rfl) ?_; clear H; intro wx H) | (refine wpList_store_st H rfl 50 _ _ rfl rfl rfl (by kernel_rfl) (by rfl) (by kernel_rfl) ?_; clear H; intro wx H) | (refine wpList_store_st H rfl 37 _ _ rfl rfl rfl (by kernel_rfl) (by rfl) (by kernel_rfl) ?_; clear H; intro wx H) | (refine wpList_store_st H rfl 27 _ _ rfl rfl rfl (by kernel_rfl) (by rfl) (by kernel_rfl) ?_; clear H; intro wx H) | (refine wpList_store1_st H rfl 3 _ _ rfl rfl _ rfl (by rfl) s1_int (by rfl) (by rfl) ?_; clear H; intro wx H) | (refine wpList_store1_st H rfl 4 _ _ rfl rfl _ rfl (by rfl) s1_bool (by rfl) (by rfl) ?_; clear H; intro wx H) | (refine wpList_store1_st H rfl 30 _ _ rfl rfl _ rfl (by rfl) s1_Errno (by rfl) (by rfl) ?_; clear H; intro wx H) | (refine wpList_store1_st H rfl 25 _ _ rfl rfl _ rfl (by rfl) s1_Evs (by rfl) (by rfl) ?_; clear H; intro wx H))
      | ((with_reducible refine here_alloc ?_); first | (refine wpList_alloc_st H rfl 46 rfl _ q_zero ?_; clear H; intro gq2 wx H) | (refine wpList_alloc_st H rfl 50 rfl _ ans_zero ?_; clear H; intro ga2 wx H) | (refine wpList_alloc_st H rfl 37 rfl _ ev_zero ?_; clear H; intro ge2 wx H) | (refine wpList_alloc_st H rfl 27 rfl _ ber_zero ?_; clear H; intro gr2 wx H))
      | ((with_reducible refine here_box ?_); first | (refine wpList_box_st H rfl _ _ rfl _ rfl ?_; clear H; intro gb2 wx H))))
    (try simp only [Act.put])
    refine startS (H.subm (.bl gb 27 #[.int .i64 2, .int .i64 be, .int .i64 bf, .int .i64 bd, .int .i64 br, .slice A n c] :: .bl gx 37 #[.int .i64 e0, .int .i64 e1, .int .i64 e2, .int .i64 e3, .int .i64 e4, .int .i64 e5] :: .bl ga2 50 #[.int .i64 a0, .int .i64 a1, .int .i64 a2, .int .i64 a3] :: I)) (by kernel_rfl) (fun HS => ?_)
    replace H := H.drew
    refine takeRow_st (i := 0) 27 _ rfl rfl rfl row_Berth (by kernel_rfl) (by kernel_rfl) (by kernel_rfl) (by kernel_rfl) (fun _ _ _ _ h => h) (by rfl) HS ?_
    (try simp only [Act.put, List.setIfInBounds_toArray, List.set_cons_zero, List.set_cons_succ])
    refine takeRow_st (i := 2) 50 _ rfl rfl rfl row_Answer (by kernel_rfl) (by kernel_rfl) (by kernel_rfl) (by kernel_rfl) (fun _ _ _ _ h => h) (by rfl) HS ?_
    (try simp only [Act.put, List.setIfInBounds_toArray, List.set_cons_zero, List.set_cons_succ])
    refine branchH [1] (by kernel_rfl) (by kernel_rfl) (AllStep.cons ?_ AllStep.nil)
    refine stepH_do (i := 1) rfl (by rfl) ?_
    have h := HI.out
    refine wp_call_st rfl Try.func35 (by kernel_rfl) (by kernel_rfl) _ ?_ ((with_nil ⟨2, be, bf, bd, br, es⟩ A n c HL.out hn hc H).mono ?_)
    · rfl
    clear H h
    rintro ed wy ⟨A9, c9, rfl, hc9, H⟩
    replace HS := HS.of H
    refine ⟨_, rfl, HS, ?_⟩
    (try simp only [Act.put, List.setIfInBounds_toArray, List.set_cons_zero, List.set_cons_succ])
    refine branchH [3] (by kernel_rfl) (by kernel_rfl) (AllStep.cons ?_ AllStep.nil)
    refine stepH_do (i := 3) rfl (by rfl) ?_
    refine wp_store_st H 27 _ _ rfl rfl rfl (by kernel_rfl) (by rfl) (by kernel_rfl) ?_
    clear H
    intro wx H
    replace HS := HS.of H
    refine ⟨HS, ?_⟩
    (try simp only [Act.put])
    refine branchH [4] (by kernel_rfl) (by kernel_rfl) (AllStep.cons ?_ AllStep.nil)
    refine stepH_do (i := 4) rfl (by rfl) ?_
    refine wp_store_st H 50 _ _ rfl rfl rfl (by kernel_rfl) (by rfl) (by kernel_rfl) ?_
    clear H
    intro wx H
    replace HS := HS.of H
    refine ⟨HS, ?_⟩
    (try simp only [Act.put])
    refine takeV (i := 5) (v := ?_) rfl (by kernel_rfl) (by kernel_rfl) (by kernel_rfl) (fun _ _ _ h => h) (by rfl) ?_ HS ?_
    rotate_left
    · (intro W hW; go_simp; try with_reducible rfl)
    (try simp only [Act.put, List.setIfInBounds_toArray, List.set_cons_zero, List.set_cons_succ])
    refine takeV (i := 6) (v := ?_) rfl (by kernel_rfl) (by kernel_rfl) (by kernel_rfl) (fun _ _ _ h => h) (by rfl) ?_ HS ?_
    rotate_left
    · (intro W hW; go_simp; try with_reducible rfl)
    (try simp only [Act.put, List.setIfInBounds_toArray, List.set_cons_zero, List.set_cons_succ])
    refine doneH (by kernel_rfl) ?_
    go_wp2_with fail
    have l4 : (loadVar 27 ⟨gr, 0, none⟩).run Try.prog wx = .ok (.agg #[.int .i64 2, .int .i64 be, .int .i64 bf, .int .i64 bd, .int .i64 br, .slice A9 n c9]) wx := H.loadRow 27 gr row_Berth (P := Try.prog) (by kernel_rfl)
    have l5 : (loadVar 50 ⟨ga, 0, none⟩).run Try.prog wx = .ok (.agg #[.int .i64 a0, .int .i64 a1, .int .i64 a2, .int .i64 a3]) wx := H.loadRow 50 ga row_Answer (P := Try.prog) (by kernel_rfl)
    exact bodyPost_ret (v := .tuple #[.agg #[.int .i64 2, .int .i64 be, .int .i64 bf, .int .i64 bd, .int .i64 br, .slice A9 n c9], .agg #[.int .i64 a0, .int .i64 a1, .int .i64 a2, .int .i64 a3], .bool false, .int .i64 0]) (by simp [results, Try.results21, asAddr, l4, l5]) rfl (HF.out _ _ _ hc9 (H.subm _))
  · rw [if_pos rfl]
    have HF := Lib.hid (fun W A' c' (h1 : n + 1 ≤ c') (h2 : St w0 W (evIt A' (es ++ [⟨e0, e1, e2, e3, e4, e5⟩]) :: I)) => (SPost.mk (r := ((⟨2, be, bf, bd, br, es ++ [⟨e0, e1, e2, e3, e4, e5⟩]⟩ : BM), ⟨a0, a1, a2, a3⟩, true)) (by rw [List.length_append, HL.out]; rfl) h1 h2 : SPost w0 I ((⟨2, be, bf, bd, br, es ++ [⟨e0, e1, e2, e3, e4, e5⟩]⟩ : BM), ⟨a0, a1, a2, a3⟩, true) (.returned (.tuple #[.agg #[.int .i64 2, .int .i64 be, .int .i64 bf, .int .i64 bd, .int .i64 br, .slice A' (n + 1) c'], .agg #[.int .i64 a0, .int .i64 a1, .int .i64 a2, .int .i64 a3], .bool true, .int .i64 0])) W))
    generalize SPost w0 I ((⟨2, be, bf, bd, br, es ++ [⟨e0, e1, e2, e3, e4, e5⟩]⟩ : BM), ⟨a0, a1, a2, a3⟩, true) = POST at *
    go_enter Try.func21, Try.ntmps21
    go_upto_region 14 with (first | ((with_reducible refine here_box ?_); first | (refine wpList_box_st H rfl 27 _ rfl _ rfl ?_; clear H; intro gb wx H) | (refine wpList_box_st H rfl 37 _ rfl _ rfl ?_; clear H; intro gx wx H)) | (go_at_call 38; refine (CC.out _).mono ?_; rintro ed w9 ⟨rfl, hb9⟩; replace H := H.below hb9; clear hb9) | (go_at_call 33; have h := HI.out; refine (check_st ⟨2, be, bf, bd, br, es⟩ A n c m HL.out HB.out hm hc H).mono ?_; clear H h; rintro ed wy ⟨rfl, H⟩) | (go_at_call 45; refine (serving_st ⟨2, be, bf, bd, br, es⟩ A n c HS2.out H).mono ?_; clear H; rintro ed wy ⟨rfl, H⟩) | (go_at_call 19; have h := HI.out; refine (HR.out _ _ H inferInstance).mono ?_; clear H h; rintro ed wy ⟨A1, c1, A2, c2, rfl, v1, v2, H⟩) | (first
      | ((with_reducible refine here_load ?_); first | (refine wpList_load_st H rfl 46 _ rfl rfl row_Queue (by kernel_rfl) ?_) | (refine wpList_load_st H rfl 50 _ rfl rfl row_Answer (by kernel_rfl) ?_) | (refine wpList_load_st H rfl 37 _ rfl rfl row_Event (by kernel_rfl) ?_) | (refine wpList_load_st H rfl 27 _ rfl rfl row_Berth (by kernel_rfl) ?_) | (refine wpList_load1_st H rfl 3 _ rfl rfl sc_int (by rfl) ?_) | (refine wpList_load1_stG H (by rfl) 3 _ rfl rfl sc_int (by rfl) ?_) | (refine wpList_load1_st H rfl 4 _ rfl rfl sc_bool (by rfl) ?_) | (refine wpList_load1_stG H (by rfl) 4 _ rfl rfl sc_bool (by rfl) ?_) | (refine wpList_load1_st H rfl 30 _ rfl rfl sc_Errno (by rfl) ?_) | (refine wpList_load1_stG H (by rfl) 30 _ rfl rfl sc_Errno (by rfl) ?_) | (refine wpList_load1_st H rfl 25 _ rfl rfl sc_Evs (by rfl) ?_) | (refine wpList_load1_stG H (by rfl) 25 _ rfl rfl sc_Evs (by rfl) ?_))
      | ((with_reducible refine here_store ?_); first | (refine wpList_store_st H rfl 46 _ _ rfl rfl rfl (by kernel_rfl) (by rfl) (by kernel_rfl) ?_; clear H; intro wx H) | (refine wpList_store_st H rfl 50 _ _ rfl rfl rfl (by kernel_rfl) (by rfl) (by kernel_rfl) ?_; clear H; intro wx H) | (refine wpList_store_st H rfl 37 _ _ rfl rfl rfl (by kernel_rfl) (by rfl) (by kernel_rfl) ?_; clear H; intro wx H) | (refine wpList_store_st H rfl 27 _ _ rfl rfl rfl (by kernel_rfl) (by rfl) (by kernel_rfl) ?_; clear H; intro wx H) | (refine wpList_store1_st H rfl 3 _ _ rfl rfl _ rfl (by rfl) s1_int (by rfl) (by rfl) ?_; clear H; intro wx H) | (refine wpList_store1_st H rfl 4 _ _ rfl rfl _ rfl (by rfl) s1_bool (by rfl) (by rfl) ?_; clear H; intro wx H) | (refine wpList_store1_st H rfl 30 _ _ rfl rfl _ rfl (by rfl) s1_Errno (by rfl) (by rfl) ?_; clear H; intro wx H) | (refine wpList_store1_st H rfl 25 _ _ rfl rfl _ rfl (by rfl) s1_Evs (by rfl) (by rfl) ?_; clear H; intro wx H))
      | ((with_reducible refine here_alloc ?_); first | (refine wpList_alloc_st H rfl 46 rfl _ q_zero ?_; clear H; intro gq wx H) | (refine wpList_alloc_st H rfl 50 rfl _ ans_zero ?_; clear H; intro ga wx H) | (refine wpList_alloc_st H rfl 37 rfl _ ev_zero ?_; clear H; intro ge wx H) | (refine wpList_alloc_st H rfl 27 rfl _ ber_zero ?_; clear H; intro gr wx H))
      | ((with_reducible refine here_box ?_); first | (refine wpList_box_st H rfl _ _ rfl _ rfl ?_; clear H; intro gb wx H))))
    go_upto_region 19 with (first | (go_at_call 20; refine (CD.out _ _ _ _ _ _ H inferInstance inferInstance v1 v2).mono ?_; clear H; rintro ed wy ⟨G1, y1, G2, y2, rfl, u1, u2, H⟩) | (first
      | ((with_reducible refine here_load ?_); first | (refine wpList_load_st H rfl 46 _ rfl rfl row_Queue (by kernel_rfl) ?_) | (refine wpList_load_st H rfl 50 _ rfl rfl row_Answer (by kernel_rfl) ?_) | (refine wpList_load_st H rfl 37 _ rfl rfl row_Event (by kernel_rfl) ?_) | (refine wpList_load_st H rfl 27 _ rfl rfl row_Berth (by kernel_rfl) ?_) | (refine wpList_load1_st H rfl 3 _ rfl rfl sc_int (by rfl) ?_) | (refine wpList_load1_stG H (by rfl) 3 _ rfl rfl sc_int (by rfl) ?_) | (refine wpList_load1_st H rfl 4 _ rfl rfl sc_bool (by rfl) ?_) | (refine wpList_load1_stG H (by rfl) 4 _ rfl rfl sc_bool (by rfl) ?_) | (refine wpList_load1_st H rfl 30 _ rfl rfl sc_Errno (by rfl) ?_) | (refine wpList_load1_stG H (by rfl) 30 _ rfl rfl sc_Errno (by rfl) ?_) | (refine wpList_load1_st H rfl 25 _ rfl rfl sc_Evs (by rfl) ?_) | (refine wpList_load1_stG H (by rfl) 25 _ rfl rfl sc_Evs (by rfl) ?_))
      | ((with_reducible refine here_store ?_); first | (refine wpList_store_st H rfl 46 _ _ rfl rfl rfl (by kernel_rfl) (by rfl) (by kernel_rfl) ?_; clear H; intro wx H) | (refine wpList_store_st H rfl 50 _ _ rfl rfl rfl (by kernel_rfl) (by rfl) (by kernel_rfl) ?_; clear H; intro wx H) | (refine wpList_store_st H rfl 37 _ _ rfl rfl rfl (by kernel_rfl) (by rfl) (by kernel_rfl) ?_; clear H; intro wx H) | (refine wpList_store_st H rfl 27 _ _ rfl rfl rfl (by kernel_rfl) (by rfl) (by kernel_rfl) ?_; clear H; intro wx H) | (refine wpList_store1_st H rfl 3 _ _ rfl rfl _ rfl (by rfl) s1_int (by rfl) (by rfl) ?_; clear H; intro wx H) | (refine wpList_store1_st H rfl 4 _ _ rfl rfl _ rfl (by rfl) s1_bool (by rfl) (by rfl) ?_; clear H; intro wx H) | (refine wpList_store1_st H rfl 30 _ _ rfl rfl _ rfl (by rfl) s1_Errno (by rfl) (by rfl) ?_; clear H; intro wx H) | (refine wpList_store1_st H rfl 25 _ _ rfl rfl _ rfl (by rfl) s1_Evs (by rfl) (by rfl) ?_; clear H; intro wx H))
      | ((with_reducible refine here_alloc ?_); first | (refine wpList_alloc_st H rfl 46 rfl _ q_zero ?_; clear H; intro gq2 wx H) | (refine wpList_alloc_st H rfl 50 rfl _ ans_zero ?_; clear H; intro ga2 wx H) | (refine wpList_alloc_st H rfl 37 rfl _ ev_zero ?_; clear H; intro ge2 wx H) | (refine wpList_alloc_st H rfl 27 rfl _ ber_zero ?_; clear H; intro gr2 wx H))
      | ((with_reducible refine here_box ?_); first | (refine wpList_box_st H rfl _ _ rfl _ rfl ?_; clear H; intro gb2 wx H))))
    (try simp only [Act.put])
    refine startS (H.subm (.bl gb 27 #[.int .i64 2, .int .i64 be, .int .i64 bf, .int .i64 bd, .int .i64 br, .slice A n c] :: .bl gx 37 #[.int .i64 e0, .int .i64 e1, .int .i64 e2, .int .i64 e3, .int .i64 e4, .int .i64 e5] :: .bl ga2 50 #[.int .i64 a0, .int .i64 a1, .int .i64 a2, .int .i64 a3] :: I)) (by kernel_rfl) (fun HS => ?_)
    replace H := H.drew
    refine takeRow_st (i := 0) 27 _ rfl rfl rfl row_Berth (by kernel_rfl) (by kernel_rfl) (by kernel_rfl) (by kernel_rfl) (fun _ _ _ _ h => h) (by rfl) HS ?_
    (try simp only [Act.put, List.setIfInBounds_toArray, List.set_cons_zero, List.set_cons_succ])
    refine takeRow_st (i := 1) 37 _ rfl rfl rfl row_Event (by kernel_rfl) (by kernel_rfl) (by kernel_rfl) (by kernel_rfl) (fun _ _ _ _ h => h) (by rfl) HS ?_
    (try simp only [Act.put, List.setIfInBounds_toArray, List.set_cons_zero, List.set_cons_succ])
    refine takeRow_st (i := 4) 50 _ rfl rfl rfl row_Answer (by kernel_rfl) (by kernel_rfl) (by kernel_rfl) (by kernel_rfl) (fun _ _ _ _ h => h) (by rfl) HS ?_
    (try simp only [Act.put, List.setIfInBounds_toArray, List.set_cons_zero, List.set_cons_succ])
    refine branchH [2] (by kernel_rfl) (by kernel_rfl) (AllStep.cons ?_ AllStep.nil)
    refine stepH_do (i := 2) rfl (by rfl) ?_
    refine wp_buildSlice1_st H 25 _ rfl 37 Try.underlying25 _ rfl _ ev_info2 (by rfl) (by rfl) ?_
    clear H
    intro gs wx H
    replace H := H.oneEv
    replace HS := HS.of H
    refine ⟨HS, ?_⟩
    (try simp only [Act.put, List.setIfInBounds_toArray, List.set_cons_zero, List.set_cons_succ])
    refine branchH [3] (by kernel_rfl) (by kernel_rfl) (AllStep.cons ?_ AllStep.nil)
    refine stepH_do (i := 3) rfl (by rfl) ?_
    have h := HI.out
    refine wp_call_st rfl Try.func35 (by kernel_rfl) (by kernel_rfl) _ ?_ ((with_st ⟨2, be, bf, bd, br, es⟩ [⟨e0, e1, e2, e3, e4, e5⟩] A (some ⟨gs, 0, none⟩) n c 1 1 HL.out rfl hn (by omega) hc H).mono ?_)
    · rfl
    clear H h
    rintro ed wy ⟨A9, c9, rfl, hc9, H⟩
    replace HS := HS.of H
    refine ⟨_, rfl, HS, ?_⟩
    (try simp only [Act.put, List.setIfInBounds_toArray, List.set_cons_zero, List.set_cons_succ])
    refine branchH [5] (by kernel_rfl) (by kernel_rfl) (AllStep.cons ?_ AllStep.nil)
    refine stepH_do (i := 5) rfl (by rfl) ?_
    refine wp_store_st H 27 _ _ rfl rfl rfl (by kernel_rfl) (by rfl) (by kernel_rfl) ?_
    clear H
    intro wx H
    replace HS := HS.of H
    refine ⟨HS, ?_⟩
    (try simp only [Act.put])
    refine branchH [6] (by kernel_rfl) (by kernel_rfl) (AllStep.cons ?_ AllStep.nil)
    refine stepH_do (i := 6) rfl (by rfl) ?_
    refine wp_store_st H 50 _ _ rfl rfl rfl (by kernel_rfl) (by rfl) (by kernel_rfl) ?_
    clear H
    intro wx H
    replace HS := HS.of H
    refine ⟨HS, ?_⟩
    (try simp only [Act.put])
    refine takeV (i := 7) (v := ?_) rfl (by kernel_rfl) (by kernel_rfl) (by kernel_rfl) (fun _ _ _ h => h) (by rfl) ?_ HS ?_
    rotate_left
    · (intro W hW; go_simp; try with_reducible rfl)
    (try simp only [Act.put, List.setIfInBounds_toArray, List.set_cons_zero, List.set_cons_succ])
    refine takeV (i := 8) (v := ?_) rfl (by kernel_rfl) (by kernel_rfl) (by kernel_rfl) (fun _ _ _ h => h) (by rfl) ?_ HS ?_
    rotate_left
    · (intro W hW; go_simp; try with_reducible rfl)
    (try simp only [Act.put, List.setIfInBounds_toArray, List.set_cons_zero, List.set_cons_succ])
    refine doneH (by kernel_rfl) ?_
    go_wp2_with fail
    have l4 : (loadVar 27 ⟨gr, 0, none⟩).run Try.prog wx = .ok (.agg #[.int .i64 2, .int .i64 be, .int .i64 bf, .int .i64 bd, .int .i64 br, .slice A9 (n + 1) c9]) wx := H.loadRow 27 gr row_Berth (P := Try.prog) (by kernel_rfl)
    have l5 : (loadVar 50 ⟨ga, 0, none⟩).run Try.prog wx = .ok (.agg #[.int .i64 a0, .int .i64 a1, .int .i64 a2, .int .i64 a3]) wx := H.loadRow 50 ga row_Answer (P := Try.prog) (by kernel_rfl)
    exact bodyPost_ret (v := .tuple #[.agg #[.int .i64 2, .int .i64 be, .int .i64 bf, .int .i64 bd, .int .i64 br, .slice A9 (n + 1) c9], .agg #[.int .i64 a0, .int .i64 a1, .int .i64 a2, .int .i64 a3], .bool true, .int .i64 0]) (by simp [results, Try.results21, asAddr, l4, l5]) rfl (HF.out _ _ _ hc9 (H.subm _))
theorem serve_st {w0 w : World} {I : List It} (b : BM) (e : Ev) (A : Option Addr) (n c m : Nat) (hl : b.es.length = n) (hb : b.Ok m) (hm : m ≤ 149) (hc : n ≤ c) (he : e.check = 0) (hk : e.kind ≠ 4) (H : St w0 w I) [h : Has I (evIt A b.es)] :
    Calls Try.prog 21 #[.agg (bArr b A n c), e.val] w (SPost w0 I (b.serve e)) := by
  obtain ⟨r, be, bf, bd, br, es⟩ := b
  have HS := hb.shape
  unfold BM.Shape at HS
  dsimp only at HS hl
  have HR : r = 0 ∨ r = 1 ∨ r = 2 ∨ r = 3 ∨ r = 4 := by omega
  clear HS
  rcases HR with rfl | rfl | rfl | rfl | rfl
  · exact serve_0 be bf bd br es e A n c m hl hb hm hc he hk H
  · exact serve_1 be bf bd br es e A n c m hl hb hm hc he hk H
  · exact serve_2 be bf bd br es e A n c m hl hb hm hc he hk H
  · exact serve_3 be bf bd br es e A n c m hl hb hm hc he hk H
  · exact serve_4 be bf bd br es e A n c m hl hb hm hc he hk H

end Go.Proofs.Ytjgbkicnagcmdaa
