/- Histories: add an event. -/
import Derived.Test.YtjgbkicnagcmdaaQSt
import Derived.Deep.Cut
import Derived.Deep.DeepCutAuto
import Derived.Deep.QuietTactic
import Derived.BigQuiet
namespace Go.Proofs.Ytjgbkicnagcmdaa
open Go.RowKit

/-- the cells of a telling -/
def tArr (q : QM) (A1 : Option Addr) (c1 : Nat) (A2 : Option Addr) (c2 : Nat) (va : Value) : Array Value := ((qArr q A1 c1 A2 c2).toList ++ [va]).toArray
theorem tArr_q (q : QM) (A1 : Option Addr) (c1 : Nat) (A2 : Option Addr) (c2 : Nat) (va : Value) : (tArr q A1 c1 A2 c2 va).extract 0 (0 + 41) = qArr q A1 c1 A2 c2 := by kernel_rfl
theorem tArr_put (q q' : QM) (A1 A1' : Option Addr) (c1 c1' : Nat) (A2 A2' : Option Addr) (c2 c2' : Nat) (va : Value) : spl (tArr q A1 c1 A2 c2 va) 0 (qArr q' A1' c1' A2' c2').toList = tArr q' A1' c1' A2' c2' va := by kernel_rfl
theorem tArr_ans (q : QM) (A1 : Option Addr) (c1 : Nat) (A2 : Option Addr) (c2 : Nat) (va va' : Value) : (tArr q A1 c1 A2 c2 va).setIfInBounds 41 va' = tArr q A1 c1 A2 c2 va' := by kernel_rfl
theorem ans_info2 : (Try.prog.info? 50).map (fun i => (i.zero, i.size)) = some (some (.agg #[.int .i64 0, .int .i64 0, .int .i64 0, .int .i64 0]), 4) := by kernel_rfl
/-- what is known of a telling: the queue, what was answered -/
def TIs (w0 w : World) (I : List It) (g : Nat) (q : QM) (la : List QA) : Prop :=
  ∃ A1 c1 A2 c2 va, q.rd.length ≤ c1 ∧ q.ls.length ≤ c2 ∧ St w0 w (.bl g 83 (tArr q A1 c1 A2 c2 va) :: .ow 50 4 va la.length (qansCells la) :: rdIt q A1 :: lsIt q A2 :: I)
def TAdd (w0 : World) (I : List It) (q : QM) (e : Ev) (g : Nat) (la : List QA) (ed : Ending) (w' : World) : Prop :=
  ed = .returned (.bool (q.step e).2.2) ∧ ((q.step e).2.2 = false → St w0 w' I) ∧ ((q.step e).2.2 = true → TIs w0 w' I g (q.step e).1 (la ++ [(q.step e).2.1]))
theorem anss_snoc (la : List QA) (k p i b : Int) : qansCells la ++ (#[Value.int .i64 k, .int .i64 p, .int .i64 i, .int .i64 b] : Array Value).toList = qansCells (la ++ [⟨k, p, i, b⟩]) := (qansCells_snoc la k p i b).symm

set_option maxRecDepth 100000 in
set_option maxHeartbeats 8000000 in
theorem tadd_st {w0 w : World} {I : List It} (q : QM) (e : Ev) (g : Nat) (la : List QA) (HT : TIs w0 w I g q la)
    (hi : q.Inv) (hr : q.Room 1) (he : e.check = 0) (hn : la.length ≤ 1000) :
    Calls Try.prog 49 #[.pointer (some ⟨g, 0, none⟩), e.val] w (TAdd w0 I q e g la) := by
  obtain ⟨A1, c1, A2, c2, va, hc1, hc2, H⟩ := HT
  have CD := Lib.hid (fun W J H h1 h2 => do_st (w0 := w0) (w := W) (I := J) (h1 := h1) (h2 := h2) q e (A1 := A1) (A2 := A2) H hi hr he hc1 hc2)
  have HF := Lib.hid (show ∀ W, (q.step e).2.2 = false → St w0 W I → TAdd w0 I q e g la (.returned (.bool false)) W from fun W h1 h2 => ⟨by rw [h1], fun _ => h2, fun h => by rw [h1] at h; cases h⟩)
  have HY := Lib.hid (show ∀ W, (q.step e).2.2 = true → TIs w0 W I g (q.step e).1 (la ++ [(q.step e).2.1]) → TAdd w0 I q e g la (.returned (.bool true)) W from fun W h1 h2 => ⟨by rw [h1], fun h => (by rw [h1] at h; cases h), fun _ => h2⟩)
  generalize TAdd w0 I q e g la = POST at *
  obtain ⟨r, hr'⟩ : ∃ r, q.step e = r := ⟨_, rfl⟩
  rw [hr'] at CD HF HY
  obtain ⟨q', a, chg⟩ := r
  dsimp only at CD HF HY
  obtain ⟨a0, a1, a2, a3⟩ := a
  simp only [QA.val, ansV] at CD
  have hvn : ∃ A c, va = .slice A la.length c := by
    obtain ⟨A, c, h, _⟩ := own_shape (H.own 50 va)
    exact ⟨A, c, h⟩
  obtain ⟨Av, cv, rfl⟩ := hvn
  obtain ⟨n, hn'⟩ : ∃ n, la.length = n := ⟨_, rfl⟩
  have HN := Lib.hid hn'
  rw [hn'] at H hn
  obtain ⟨k, p, i, b, he', hno⟩ := e
  unfold Ev.val
  dsimp only
  clear hr' hi hr he hc1 hc2 hn'
  go_enter Try.func49, Try.ntmps49
  go_upto_region 1 with (first
    | ((with_reducible refine here_load ?_); first | (refine wpList_load_st H rfl 46 _ rfl rfl row_Queue (by kernel_rfl) ?_) | (refine wpList_load_st H rfl 50 _ rfl rfl row_Answer (by kernel_rfl) ?_) | (refine wpList_load_st H rfl 37 _ rfl rfl row_Event (by kernel_rfl) ?_) | (refine wpList_load1_st H rfl 3 _ rfl rfl sc_int (by rfl) ?_) | (refine wpList_load1_stG H (by rfl) 3 _ rfl rfl sc_int (by rfl) ?_) | (refine wpList_load1_st H rfl 4 _ rfl rfl sc_bool (by rfl) ?_) | (refine wpList_load1_stG H (by rfl) 4 _ rfl rfl sc_bool (by rfl) ?_) | (refine wpList_load1_st H rfl 30 _ rfl rfl sc_Errno (by rfl) ?_) | (refine wpList_load1_stG H (by rfl) 30 _ rfl rfl sc_Errno (by rfl) ?_) | (refine wpList_load1_st H rfl 39 _ rfl rfl sc_Msgs (by rfl) ?_) | (refine wpList_load1_stG H (by rfl) 39 _ rfl rfl sc_Msgs (by rfl) ?_) | (refine wpList_load1_st H rfl 40 _ rfl rfl sc_Lss (by rfl) ?_) | (refine wpList_load1_stG H (by rfl) 40 _ rfl rfl sc_Lss (by rfl) ?_))
    | ((with_reducible refine here_store ?_); first | (refine wpList_store_st H rfl 46 _ _ rfl rfl rfl (by kernel_rfl) (by rfl) (by kernel_rfl) ?_; clear H; intro wx H) | (refine wpList_store_st H rfl 50 _ _ rfl rfl rfl (by kernel_rfl) (by rfl) (by kernel_rfl) ?_; clear H; intro wx H) | (refine wpList_store_st H rfl 37 _ _ rfl rfl rfl (by kernel_rfl) (by rfl) (by kernel_rfl) ?_; clear H; intro wx H) | (refine wpList_store1_st H rfl 3 _ _ rfl rfl _ rfl (by rfl) s1_int (by rfl) (by rfl) ?_; clear H; intro wx H) | (refine wpList_store1_st H rfl 4 _ _ rfl rfl _ rfl (by rfl) s1_bool (by rfl) (by rfl) ?_; clear H; intro wx H) | (refine wpList_store1_st H rfl 30 _ _ rfl rfl _ rfl (by rfl) s1_Errno (by rfl) (by rfl) ?_; clear H; intro wx H) | (refine wpList_store1_st H rfl 39 _ _ rfl rfl _ rfl (by rfl) s1_Msgs (by rfl) (by rfl) ?_; clear H; intro wx H) | (refine wpList_store1_st H rfl 40 _ _ rfl rfl _ rfl (by rfl) s1_Lss (by rfl) (by rfl) ?_; clear H; intro wx H))
    | ((with_reducible refine here_alloc ?_); first | (refine wpList_alloc_st H rfl 46 rfl _ q_zero ?_; clear H; intro gq wx H) | (refine wpList_alloc_st H rfl 50 rfl _ ans_zero ?_; clear H; intro ga wx H) | (refine wpList_alloc_st H rfl 37 rfl _ ev_zero ?_; clear H; intro ge wx H))
    | ((with_reducible refine here_box ?_); first | (refine wpList_box_st H rfl _ _ rfl _ rfl ?_; clear H; intro gb wx H)))
  (try simp only [Act.put, List.setIfInBounds_toArray, List.set_cons_zero, List.set_cons_succ])
  go_cut [5, 6, 7, 8] (fun s5 s6 s7 s8 wx => ∃ g1 g2 G1 y1 G2 y2, s5 = .pointer (some ⟨g1, 0, none⟩) ∧ s6 = .pointer (some ⟨g2, 0, none⟩) ∧ s7 = .bool chg ∧ s8 = .int .i64 0 ∧ q'.rd.length ≤ y1 ∧ q'.ls.length ≤ y2 ∧
    St w0 wx (.bl g1 46 (qArr q' G1 y1 G2 y2) :: .bl g2 50 #[.int .i64 a0, .int .i64 a1, .int .i64 a2, .int .i64 a3] :: .bl g 83 (tArr q A1 c1 A2 c2 (.slice Av n cv)) :: .ow 50 4 (.slice Av n cv) n (qansCells la) :: rdIt q' G1 :: lsIt q' G2 :: I))
  case first =>
    refine startS H (by kernel_rfl) (fun HS => ?_)
    replace H := HS
    refine takeMove (i := 0) rfl rfl _ (by rfl) (by kernel_rfl) (by kernel_rfl) (by kernel_rfl) (fun _ _ _ _ h => h) (by rfl) HS ?_
    (try simp only [Act.put, List.setIfInBounds_toArray, List.set_cons_zero, List.set_cons_succ])
    refine takeV (i := 1) (v := ?_) rfl (by kernel_rfl) (by kernel_rfl) (by kernel_rfl) (fun _ _ _ h => h) (by rfl) ?_ HS ?_
    rotate_left
    · (intro W hW; go_simp; try with_reducible rfl)
    (try simp only [Act.put, List.setIfInBounds_toArray, List.set_cons_zero, List.set_cons_succ])
    refine takeV (i := 2) (v := ?_) rfl (by kernel_rfl) (by kernel_rfl) (by kernel_rfl) (fun _ _ _ h => h) (by rfl) ?_ HS ?_
    rotate_left
    · (intro W hW; go_simp; try with_reducible rfl)
    (try simp only [Act.put, List.setIfInBounds_toArray, List.set_cons_zero, List.set_cons_succ])
    refine takePart_st (i := 3) 46 _ rfl rfl rfl row_Queue (by kernel_rfl) (by rfl) _ (tArr_q _ _ _ _ _ _) (by kernel_rfl) (by kernel_rfl) (by kernel_rfl) (fun _ _ _ _ h => h) (by rfl) HS ?_
    (try simp only [Act.put, List.setIfInBounds_toArray, List.set_cons_zero, List.set_cons_succ])
    refine takeRow_st (i := 4) 37 _ rfl rfl rfl row_Event (by kernel_rfl) (by kernel_rfl) (by kernel_rfl) (by kernel_rfl) (fun _ _ _ _ h => h) (by rfl) HS ?_
    (try simp only [Act.put, List.setIfInBounds_toArray, List.set_cons_zero, List.set_cons_succ])
    refine branchH [5, 11, 12] (by kernel_rfl) (by kernel_rfl) (AllStep.cons ?_ (AllStep.cons ?_ (AllStep.cons ?_ AllStep.nil)))
    · refine stepH_do (i := 5) rfl (by rfl) ?_
      refine wp_call_st rfl Try.func20 (by kernel_rfl) (by kernel_rfl) _ ?_ ((CD.out _ _ H inferInstance inferInstance).mono ?_)
      · rfl
      rintro ed wy ⟨G1, y1, G2, y2, rfl, v1, v2, H⟩
      replace HS := HS.of H
      refine ⟨_, rfl, HS, ?_⟩
      (try simp only [Act.put, List.setIfInBounds_toArray, List.set_cons_zero, List.set_cons_succ])
      refine takeMove (i := 6) rfl rfl _ (by rfl) (by kernel_rfl) (by kernel_rfl) (by kernel_rfl) (fun _ _ _ _ h => h) (by rfl) HS ?_
      (try simp only [Act.put, List.setIfInBounds_toArray, List.set_cons_zero, List.set_cons_succ])
      refine takeExtract (i := 7) rfl rfl _ _ (by rfl) (by rfl) (by kernel_rfl) (by kernel_rfl) (by kernel_rfl) (fun _ _ _ _ h => h) (by rfl) HS ?_
      (try simp only [Act.put, List.setIfInBounds_toArray, List.set_cons_zero, List.set_cons_succ])
      refine takeExtract (i := 8) rfl rfl _ _ (by rfl) (by rfl) (by kernel_rfl) (by kernel_rfl) (by kernel_rfl) (fun _ _ _ _ h => h) (by rfl) HS ?_
      (try simp only [Act.put, List.setIfInBounds_toArray, List.set_cons_zero, List.set_cons_succ])
      refine takeExtract (i := 9) rfl rfl _ _ (by rfl) (by rfl) (by kernel_rfl) (by kernel_rfl) (by kernel_rfl) (fun _ _ _ _ h => h) (by rfl) HS ?_
      (try simp only [Act.put, List.setIfInBounds_toArray, List.set_cons_zero, List.set_cons_succ])
      refine takeExtract (i := 10) rfl rfl _ _ (by rfl) (by rfl) (by kernel_rfl) (by kernel_rfl) (by kernel_rfl) (fun _ _ _ _ h => h) (by rfl) HS ?_
      (try simp only [Act.put, List.setIfInBounds_toArray, List.set_cons_zero, List.set_cons_succ])
      refine branchH [11, 12] (by kernel_rfl) (by kernel_rfl) (AllStep.cons ?_ (AllStep.cons ?_ AllStep.nil))
      · refine stepH_do (i := 11) rfl (by rfl) ?_
        refine wp_alloc_st H 46 rfl _ q_zero ?_
        clear H
        intro gq9 wx H
        replace HS := HS.of H
        refine ⟨HS, ?_⟩
        (try simp only [Act.put, List.setIfInBounds_toArray, List.set_cons_zero, List.set_cons_succ])
        refine branchH [12] (by kernel_rfl) (by kernel_rfl) (AllStep.cons ?_ AllStep.nil)
        refine stepH_do (i := 12) rfl (by rfl) ?_
        refine wp_alloc_st H 50 rfl _ ans_zero ?_
        clear H
        intro ga9 wx H
        replace HS := HS.of H
        refine ⟨HS, ?_⟩
        (try simp only [Act.put, List.setIfInBounds_toArray, List.set_cons_zero, List.set_cons_succ])
        refine branchH [13] (by kernel_rfl) (by kernel_rfl) (AllStep.cons ?_ AllStep.nil)
        refine stepH_do (i := 13) rfl (by rfl) ?_
        refine wp_store_st H 46 _ _ rfl rfl rfl (by kernel_rfl) (by rfl) (by kernel_rfl) ?_
        clear H
        intro wx H
        replace HS := HS.of H
        refine ⟨HS, ?_⟩
        (try simp only [Act.put])
        refine branchH [14] (by kernel_rfl) (by kernel_rfl) (AllStep.cons ?_ AllStep.nil)
        refine stepH_do (i := 14) rfl (by rfl) ?_
        refine wp_store_st H 50 _ _ rfl rfl rfl (by kernel_rfl) (by rfl) (by kernel_rfl) ?_
        clear H
        intro wx H
        replace HS := HS.of H
        refine ⟨HS, ?_⟩
        (try simp only [Act.put])
        refine takeAssign (i := 15) rfl rfl _ (by rfl) (by kernel_rfl) (by kernel_rfl) (by kernel_rfl) (fun _ _ _ _ h => h) (by rfl) HS ?_
        (try simp only [Act.put, List.setIfInBounds_toArray, List.set_cons_zero, List.set_cons_succ])
        refine takeAssign (i := 16) rfl rfl _ (by rfl) (by kernel_rfl) (by kernel_rfl) (by kernel_rfl) (fun _ _ _ _ h => h) (by rfl) HS ?_
        (try simp only [Act.put, List.setIfInBounds_toArray, List.set_cons_zero, List.set_cons_succ])
        refine doneH (by kernel_rfl) ?_
        go_wp2_with fail
        go_meet
        exact ⟨_, _, G1, y1, G2, y2, rfl, rfl, rfl, rfl, v1, v2, H.subm _⟩
      · refine stepH_do (i := 12) rfl (by rfl) ?_
        refine wp_alloc_st H 50 rfl _ ans_zero ?_
        clear H
        intro ga9 wx H
        replace HS := HS.of H
        refine ⟨HS, ?_⟩
        (try simp only [Act.put, List.setIfInBounds_toArray, List.set_cons_zero, List.set_cons_succ])
        refine branchH [11] (by kernel_rfl) (by kernel_rfl) (AllStep.cons ?_ AllStep.nil)
        refine stepH_do (i := 11) rfl (by rfl) ?_
        refine wp_alloc_st H 46 rfl _ q_zero ?_
        clear H
        intro gq9 wx H
        replace HS := HS.of H
        refine ⟨HS, ?_⟩
        (try simp only [Act.put, List.setIfInBounds_toArray, List.set_cons_zero, List.set_cons_succ])
        refine branchH [13] (by kernel_rfl) (by kernel_rfl) (AllStep.cons ?_ AllStep.nil)
        refine stepH_do (i := 13) rfl (by rfl) ?_
        refine wp_store_st H 46 _ _ rfl rfl rfl (by kernel_rfl) (by rfl) (by kernel_rfl) ?_
        clear H
        intro wx H
        replace HS := HS.of H
        refine ⟨HS, ?_⟩
        (try simp only [Act.put])
        refine branchH [14] (by kernel_rfl) (by kernel_rfl) (AllStep.cons ?_ AllStep.nil)
        refine stepH_do (i := 14) rfl (by rfl) ?_
        refine wp_store_st H 50 _ _ rfl rfl rfl (by kernel_rfl) (by rfl) (by kernel_rfl) ?_
        clear H
        intro wx H
        replace HS := HS.of H
        refine ⟨HS, ?_⟩
        (try simp only [Act.put])
        refine takeAssign (i := 15) rfl rfl _ (by rfl) (by kernel_rfl) (by kernel_rfl) (by kernel_rfl) (fun _ _ _ _ h => h) (by rfl) HS ?_
        (try simp only [Act.put, List.setIfInBounds_toArray, List.set_cons_zero, List.set_cons_succ])
        refine takeAssign (i := 16) rfl rfl _ (by rfl) (by kernel_rfl) (by kernel_rfl) (by kernel_rfl) (fun _ _ _ _ h => h) (by rfl) HS ?_
        (try simp only [Act.put, List.setIfInBounds_toArray, List.set_cons_zero, List.set_cons_succ])
        refine doneH (by kernel_rfl) ?_
        go_wp2_with fail
        go_meet
        exact ⟨_, _, G1, y1, G2, y2, rfl, rfl, rfl, rfl, v1, v2, H.subm _⟩
    · refine stepH_do (i := 11) rfl (by rfl) ?_
      refine wp_alloc_st H 46 rfl _ q_zero ?_
      clear H
      intro gq9 wx H
      replace HS := HS.of H
      refine ⟨HS, ?_⟩
      (try simp only [Act.put, List.setIfInBounds_toArray, List.set_cons_zero, List.set_cons_succ])
      refine branchH [5, 12] (by kernel_rfl) (by kernel_rfl) (AllStep.cons ?_ (AllStep.cons ?_ AllStep.nil))
      · refine stepH_do (i := 5) rfl (by rfl) ?_
        refine wp_call_st rfl Try.func20 (by kernel_rfl) (by kernel_rfl) _ ?_ ((CD.out _ _ H inferInstance inferInstance).mono ?_)
        · rfl
        rintro ed wy ⟨G1, y1, G2, y2, rfl, v1, v2, H⟩
        replace HS := HS.of H
        refine ⟨_, rfl, HS, ?_⟩
        (try simp only [Act.put, List.setIfInBounds_toArray, List.set_cons_zero, List.set_cons_succ])
        refine takeMove (i := 6) rfl rfl _ (by rfl) (by kernel_rfl) (by kernel_rfl) (by kernel_rfl) (fun _ _ _ _ h => h) (by rfl) HS ?_
        (try simp only [Act.put, List.setIfInBounds_toArray, List.set_cons_zero, List.set_cons_succ])
        refine takeExtract (i := 7) rfl rfl _ _ (by rfl) (by rfl) (by kernel_rfl) (by kernel_rfl) (by kernel_rfl) (fun _ _ _ _ h => h) (by rfl) HS ?_
        (try simp only [Act.put, List.setIfInBounds_toArray, List.set_cons_zero, List.set_cons_succ])
        refine takeExtract (i := 8) rfl rfl _ _ (by rfl) (by rfl) (by kernel_rfl) (by kernel_rfl) (by kernel_rfl) (fun _ _ _ _ h => h) (by rfl) HS ?_
        (try simp only [Act.put, List.setIfInBounds_toArray, List.set_cons_zero, List.set_cons_succ])
        refine takeExtract (i := 9) rfl rfl _ _ (by rfl) (by rfl) (by kernel_rfl) (by kernel_rfl) (by kernel_rfl) (fun _ _ _ _ h => h) (by rfl) HS ?_
        (try simp only [Act.put, List.setIfInBounds_toArray, List.set_cons_zero, List.set_cons_succ])
        refine takeExtract (i := 10) rfl rfl _ _ (by rfl) (by rfl) (by kernel_rfl) (by kernel_rfl) (by kernel_rfl) (fun _ _ _ _ h => h) (by rfl) HS ?_
        (try simp only [Act.put, List.setIfInBounds_toArray, List.set_cons_zero, List.set_cons_succ])
        refine branchH [12] (by kernel_rfl) (by kernel_rfl) (AllStep.cons ?_ AllStep.nil)
        refine stepH_do (i := 12) rfl (by rfl) ?_
        refine wp_alloc_st H 50 rfl _ ans_zero ?_
        clear H
        intro ga9 wx H
        replace HS := HS.of H
        refine ⟨HS, ?_⟩
        (try simp only [Act.put, List.setIfInBounds_toArray, List.set_cons_zero, List.set_cons_succ])
        refine branchH [13] (by kernel_rfl) (by kernel_rfl) (AllStep.cons ?_ AllStep.nil)
        refine stepH_do (i := 13) rfl (by rfl) ?_
        refine wp_store_st H 46 _ _ rfl rfl rfl (by kernel_rfl) (by rfl) (by kernel_rfl) ?_
        clear H
        intro wx H
        replace HS := HS.of H
        refine ⟨HS, ?_⟩
        (try simp only [Act.put])
        refine branchH [14] (by kernel_rfl) (by kernel_rfl) (AllStep.cons ?_ AllStep.nil)
        refine stepH_do (i := 14) rfl (by rfl) ?_
        refine wp_store_st H 50 _ _ rfl rfl rfl (by kernel_rfl) (by rfl) (by kernel_rfl) ?_
        clear H
        intro wx H
        replace HS := HS.of H
        refine ⟨HS, ?_⟩
        (try simp only [Act.put])
        refine takeAssign (i := 15) rfl rfl _ (by rfl) (by kernel_rfl) (by kernel_rfl) (by kernel_rfl) (fun _ _ _ _ h => h) (by rfl) HS ?_
        (try simp only [Act.put, List.setIfInBounds_toArray, List.set_cons_zero, List.set_cons_succ])
        refine takeAssign (i := 16) rfl rfl _ (by rfl) (by kernel_rfl) (by kernel_rfl) (by kernel_rfl) (fun _ _ _ _ h => h) (by rfl) HS ?_
        (try simp only [Act.put, List.setIfInBounds_toArray, List.set_cons_zero, List.set_cons_succ])
        refine doneH (by kernel_rfl) ?_
        go_wp2_with fail
        go_meet
        exact ⟨_, _, G1, y1, G2, y2, rfl, rfl, rfl, rfl, v1, v2, H.subm _⟩
      · refine stepH_do (i := 12) rfl (by rfl) ?_
        refine wp_alloc_st H 50 rfl _ ans_zero ?_
        clear H
        intro ga9 wx H
        replace HS := HS.of H
        refine ⟨HS, ?_⟩
        (try simp only [Act.put, List.setIfInBounds_toArray, List.set_cons_zero, List.set_cons_succ])
        refine branchH [5] (by kernel_rfl) (by kernel_rfl) (AllStep.cons ?_ AllStep.nil)
        refine stepH_do (i := 5) rfl (by rfl) ?_
        refine wp_call_st rfl Try.func20 (by kernel_rfl) (by kernel_rfl) _ ?_ ((CD.out _ _ H inferInstance inferInstance).mono ?_)
        · rfl
        rintro ed wy ⟨G1, y1, G2, y2, rfl, v1, v2, H⟩
        replace HS := HS.of H
        refine ⟨_, rfl, HS, ?_⟩
        (try simp only [Act.put, List.setIfInBounds_toArray, List.set_cons_zero, List.set_cons_succ])
        refine takeMove (i := 6) rfl rfl _ (by rfl) (by kernel_rfl) (by kernel_rfl) (by kernel_rfl) (fun _ _ _ _ h => h) (by rfl) HS ?_
        (try simp only [Act.put, List.setIfInBounds_toArray, List.set_cons_zero, List.set_cons_succ])
        refine takeExtract (i := 7) rfl rfl _ _ (by rfl) (by rfl) (by kernel_rfl) (by kernel_rfl) (by kernel_rfl) (fun _ _ _ _ h => h) (by rfl) HS ?_
        (try simp only [Act.put, List.setIfInBounds_toArray, List.set_cons_zero, List.set_cons_succ])
        refine takeExtract (i := 8) rfl rfl _ _ (by rfl) (by rfl) (by kernel_rfl) (by kernel_rfl) (by kernel_rfl) (fun _ _ _ _ h => h) (by rfl) HS ?_
        (try simp only [Act.put, List.setIfInBounds_toArray, List.set_cons_zero, List.set_cons_succ])
        refine takeExtract (i := 9) rfl rfl _ _ (by rfl) (by rfl) (by kernel_rfl) (by kernel_rfl) (by kernel_rfl) (fun _ _ _ _ h => h) (by rfl) HS ?_
        (try simp only [Act.put, List.setIfInBounds_toArray, List.set_cons_zero, List.set_cons_succ])
        refine takeExtract (i := 10) rfl rfl _ _ (by rfl) (by rfl) (by kernel_rfl) (by kernel_rfl) (by kernel_rfl) (fun _ _ _ _ h => h) (by rfl) HS ?_
        (try simp only [Act.put, List.setIfInBounds_toArray, List.set_cons_zero, List.set_cons_succ])
        refine branchH [13] (by kernel_rfl) (by kernel_rfl) (AllStep.cons ?_ AllStep.nil)
        refine stepH_do (i := 13) rfl (by rfl) ?_
        refine wp_store_st H 46 _ _ rfl rfl rfl (by kernel_rfl) (by rfl) (by kernel_rfl) ?_
        clear H
        intro wx H
        replace HS := HS.of H
        refine ⟨HS, ?_⟩
        (try simp only [Act.put])
        refine branchH [14] (by kernel_rfl) (by kernel_rfl) (AllStep.cons ?_ AllStep.nil)
        refine stepH_do (i := 14) rfl (by rfl) ?_
        refine wp_store_st H 50 _ _ rfl rfl rfl (by kernel_rfl) (by rfl) (by kernel_rfl) ?_
        clear H
        intro wx H
        replace HS := HS.of H
        refine ⟨HS, ?_⟩
        (try simp only [Act.put])
        refine takeAssign (i := 15) rfl rfl _ (by rfl) (by kernel_rfl) (by kernel_rfl) (by kernel_rfl) (fun _ _ _ _ h => h) (by rfl) HS ?_
        (try simp only [Act.put, List.setIfInBounds_toArray, List.set_cons_zero, List.set_cons_succ])
        refine takeAssign (i := 16) rfl rfl _ (by rfl) (by kernel_rfl) (by kernel_rfl) (by kernel_rfl) (fun _ _ _ _ h => h) (by rfl) HS ?_
        (try simp only [Act.put, List.setIfInBounds_toArray, List.set_cons_zero, List.set_cons_succ])
        refine doneH (by kernel_rfl) ?_
        go_wp2_with fail
        go_meet
        exact ⟨_, _, G1, y1, G2, y2, rfl, rfl, rfl, rfl, v1, v2, H.subm _⟩
    · refine stepH_do (i := 12) rfl (by rfl) ?_
      refine wp_alloc_st H 50 rfl _ ans_zero ?_
      clear H
      intro ga9 wx H
      replace HS := HS.of H
      refine ⟨HS, ?_⟩
      (try simp only [Act.put, List.setIfInBounds_toArray, List.set_cons_zero, List.set_cons_succ])
      refine branchH [5, 11] (by kernel_rfl) (by kernel_rfl) (AllStep.cons ?_ (AllStep.cons ?_ AllStep.nil))
      · refine stepH_do (i := 5) rfl (by rfl) ?_
        refine wp_call_st rfl Try.func20 (by kernel_rfl) (by kernel_rfl) _ ?_ ((CD.out _ _ H inferInstance inferInstance).mono ?_)
        · rfl
        rintro ed wy ⟨G1, y1, G2, y2, rfl, v1, v2, H⟩
        replace HS := HS.of H
        refine ⟨_, rfl, HS, ?_⟩
        (try simp only [Act.put, List.setIfInBounds_toArray, List.set_cons_zero, List.set_cons_succ])
        refine takeMove (i := 6) rfl rfl _ (by rfl) (by kernel_rfl) (by kernel_rfl) (by kernel_rfl) (fun _ _ _ _ h => h) (by rfl) HS ?_
        (try simp only [Act.put, List.setIfInBounds_toArray, List.set_cons_zero, List.set_cons_succ])
        refine takeExtract (i := 7) rfl rfl _ _ (by rfl) (by rfl) (by kernel_rfl) (by kernel_rfl) (by kernel_rfl) (fun _ _ _ _ h => h) (by rfl) HS ?_
        (try simp only [Act.put, List.setIfInBounds_toArray, List.set_cons_zero, List.set_cons_succ])
        refine takeExtract (i := 8) rfl rfl _ _ (by rfl) (by rfl) (by kernel_rfl) (by kernel_rfl) (by kernel_rfl) (fun _ _ _ _ h => h) (by rfl) HS ?_
        (try simp only [Act.put, List.setIfInBounds_toArray, List.set_cons_zero, List.set_cons_succ])
        refine takeExtract (i := 9) rfl rfl _ _ (by rfl) (by rfl) (by kernel_rfl) (by kernel_rfl) (by kernel_rfl) (fun _ _ _ _ h => h) (by rfl) HS ?_
        (try simp only [Act.put, List.setIfInBounds_toArray, List.set_cons_zero, List.set_cons_succ])
        refine takeExtract (i := 10) rfl rfl _ _ (by rfl) (by rfl) (by kernel_rfl) (by kernel_rfl) (by kernel_rfl) (fun _ _ _ _ h => h) (by rfl) HS ?_
        (try simp only [Act.put, List.setIfInBounds_toArray, List.set_cons_zero, List.set_cons_succ])
        refine branchH [11] (by kernel_rfl) (by kernel_rfl) (AllStep.cons ?_ AllStep.nil)
        refine stepH_do (i := 11) rfl (by rfl) ?_
        refine wp_alloc_st H 46 rfl _ q_zero ?_
        clear H
        intro gq9 wx H
        replace HS := HS.of H
        refine ⟨HS, ?_⟩
        (try simp only [Act.put, List.setIfInBounds_toArray, List.set_cons_zero, List.set_cons_succ])
        refine branchH [13] (by kernel_rfl) (by kernel_rfl) (AllStep.cons ?_ AllStep.nil)
        refine stepH_do (i := 13) rfl (by rfl) ?_
        refine wp_store_st H 46 _ _ rfl rfl rfl (by kernel_rfl) (by rfl) (by kernel_rfl) ?_
        clear H
        intro wx H
        replace HS := HS.of H
        refine ⟨HS, ?_⟩
        (try simp only [Act.put])
        refine branchH [14] (by kernel_rfl) (by kernel_rfl) (AllStep.cons ?_ AllStep.nil)
        refine stepH_do (i := 14) rfl (by rfl) ?_
        refine wp_store_st H 50 _ _ rfl rfl rfl (by kernel_rfl) (by rfl) (by kernel_rfl) ?_
        clear H
        intro wx H
        replace HS := HS.of H
        refine ⟨HS, ?_⟩
        (try simp only [Act.put])
        refine takeAssign (i := 15) rfl rfl _ (by rfl) (by kernel_rfl) (by kernel_rfl) (by kernel_rfl) (fun _ _ _ _ h => h) (by rfl) HS ?_
        (try simp only [Act.put, List.setIfInBounds_toArray, List.set_cons_zero, List.set_cons_succ])
        refine takeAssign (i := 16) rfl rfl _ (by rfl) (by kernel_rfl) (by kernel_rfl) (by kernel_rfl) (fun _ _ _ _ h => h) (by rfl) HS ?_
        (try simp only [Act.put, List.setIfInBounds_toArray, List.set_cons_zero, List.set_cons_succ])
        refine doneH (by kernel_rfl) ?_
        go_wp2_with fail
        go_meet
        exact ⟨_, _, G1, y1, G2, y2, rfl, rfl, rfl, rfl, v1, v2, H.subm _⟩
      · refine stepH_do (i := 11) rfl (by rfl) ?_
        refine wp_alloc_st H 46 rfl _ q_zero ?_
        clear H
        intro gq9 wx H
        replace HS := HS.of H
        refine ⟨HS, ?_⟩
        (try simp only [Act.put, List.setIfInBounds_toArray, List.set_cons_zero, List.set_cons_succ])
        refine branchH [5] (by kernel_rfl) (by kernel_rfl) (AllStep.cons ?_ AllStep.nil)
        refine stepH_do (i := 5) rfl (by rfl) ?_
        refine wp_call_st rfl Try.func20 (by kernel_rfl) (by kernel_rfl) _ ?_ ((CD.out _ _ H inferInstance inferInstance).mono ?_)
        · rfl
        rintro ed wy ⟨G1, y1, G2, y2, rfl, v1, v2, H⟩
        replace HS := HS.of H
        refine ⟨_, rfl, HS, ?_⟩
        (try simp only [Act.put, List.setIfInBounds_toArray, List.set_cons_zero, List.set_cons_succ])
        refine takeMove (i := 6) rfl rfl _ (by rfl) (by kernel_rfl) (by kernel_rfl) (by kernel_rfl) (fun _ _ _ _ h => h) (by rfl) HS ?_
        (try simp only [Act.put, List.setIfInBounds_toArray, List.set_cons_zero, List.set_cons_succ])
        refine takeExtract (i := 7) rfl rfl _ _ (by rfl) (by rfl) (by kernel_rfl) (by kernel_rfl) (by kernel_rfl) (fun _ _ _ _ h => h) (by rfl) HS ?_
        (try simp only [Act.put, List.setIfInBounds_toArray, List.set_cons_zero, List.set_cons_succ])
        refine takeExtract (i := 8) rfl rfl _ _ (by rfl) (by rfl) (by kernel_rfl) (by kernel_rfl) (by kernel_rfl) (fun _ _ _ _ h => h) (by rfl) HS ?_
        (try simp only [Act.put, List.setIfInBounds_toArray, List.set_cons_zero, List.set_cons_succ])
        refine takeExtract (i := 9) rfl rfl _ _ (by rfl) (by rfl) (by kernel_rfl) (by kernel_rfl) (by kernel_rfl) (fun _ _ _ _ h => h) (by rfl) HS ?_
        (try simp only [Act.put, List.setIfInBounds_toArray, List.set_cons_zero, List.set_cons_succ])
        refine takeExtract (i := 10) rfl rfl _ _ (by rfl) (by rfl) (by kernel_rfl) (by kernel_rfl) (by kernel_rfl) (fun _ _ _ _ h => h) (by rfl) HS ?_
        (try simp only [Act.put, List.setIfInBounds_toArray, List.set_cons_zero, List.set_cons_succ])
        refine branchH [13] (by kernel_rfl) (by kernel_rfl) (AllStep.cons ?_ AllStep.nil)
        refine stepH_do (i := 13) rfl (by rfl) ?_
        refine wp_store_st H 46 _ _ rfl rfl rfl (by kernel_rfl) (by rfl) (by kernel_rfl) ?_
        clear H
        intro wx H
        replace HS := HS.of H
        refine ⟨HS, ?_⟩
        (try simp only [Act.put])
        refine branchH [14] (by kernel_rfl) (by kernel_rfl) (AllStep.cons ?_ AllStep.nil)
        refine stepH_do (i := 14) rfl (by rfl) ?_
        refine wp_store_st H 50 _ _ rfl rfl rfl (by kernel_rfl) (by rfl) (by kernel_rfl) ?_
        clear H
        intro wx H
        replace HS := HS.of H
        refine ⟨HS, ?_⟩
        (try simp only [Act.put])
        refine takeAssign (i := 15) rfl rfl _ (by rfl) (by kernel_rfl) (by kernel_rfl) (by kernel_rfl) (fun _ _ _ _ h => h) (by rfl) HS ?_
        (try simp only [Act.put, List.setIfInBounds_toArray, List.set_cons_zero, List.set_cons_succ])
        refine takeAssign (i := 16) rfl rfl _ (by rfl) (by kernel_rfl) (by kernel_rfl) (by kernel_rfl) (fun _ _ _ _ h => h) (by rfl) HS ?_
        (try simp only [Act.put, List.setIfInBounds_toArray, List.set_cons_zero, List.set_cons_succ])
        refine doneH (by kernel_rfl) ?_
        go_wp2_with fail
        go_meet
        exact ⟨_, _, G1, y1, G2, y2, rfl, rfl, rfl, rfl, v1, v2, H.subm _⟩
  case rest =>
    obtain ⟨g1, g2, G1, y1, G2, y2, rfl, rfl, rfl, rfl, v1, v2, H⟩ := hcut
    clear CD
    cases chg
    · go_wp2_with (first
    | ((with_reducible refine here_load ?_); first | (refine wpList_load_st H rfl 46 _ rfl rfl row_Queue (by kernel_rfl) ?_) | (refine wpList_load_st H rfl 50 _ rfl rfl row_Answer (by kernel_rfl) ?_) | (refine wpList_load_st H rfl 37 _ rfl rfl row_Event (by kernel_rfl) ?_) | (refine wpList_load1_st H rfl 3 _ rfl rfl sc_int (by rfl) ?_) | (refine wpList_load1_stG H (by rfl) 3 _ rfl rfl sc_int (by rfl) ?_) | (refine wpList_load1_st H rfl 4 _ rfl rfl sc_bool (by rfl) ?_) | (refine wpList_load1_stG H (by rfl) 4 _ rfl rfl sc_bool (by rfl) ?_) | (refine wpList_load1_st H rfl 30 _ rfl rfl sc_Errno (by rfl) ?_) | (refine wpList_load1_stG H (by rfl) 30 _ rfl rfl sc_Errno (by rfl) ?_) | (refine wpList_load1_st H rfl 39 _ rfl rfl sc_Msgs (by rfl) ?_) | (refine wpList_load1_stG H (by rfl) 39 _ rfl rfl sc_Msgs (by rfl) ?_) | (refine wpList_load1_st H rfl 40 _ rfl rfl sc_Lss (by rfl) ?_) | (refine wpList_load1_stG H (by rfl) 40 _ rfl rfl sc_Lss (by rfl) ?_))
    | ((with_reducible refine here_store ?_); first | (refine wpList_store_st H rfl 46 _ _ rfl rfl rfl (by kernel_rfl) (by rfl) (by kernel_rfl) ?_; clear H; intro wx H) | (refine wpList_store_st H rfl 50 _ _ rfl rfl rfl (by kernel_rfl) (by rfl) (by kernel_rfl) ?_; clear H; intro wx H) | (refine wpList_store_st H rfl 37 _ _ rfl rfl rfl (by kernel_rfl) (by rfl) (by kernel_rfl) ?_; clear H; intro wx H) | (refine wpList_store1_st H rfl 3 _ _ rfl rfl _ rfl (by rfl) s1_int (by rfl) (by rfl) ?_; clear H; intro wx H) | (refine wpList_store1_st H rfl 4 _ _ rfl rfl _ rfl (by rfl) s1_bool (by rfl) (by rfl) ?_; clear H; intro wx H) | (refine wpList_store1_st H rfl 30 _ _ rfl rfl _ rfl (by rfl) s1_Errno (by rfl) (by rfl) ?_; clear H; intro wx H) | (refine wpList_store1_st H rfl 39 _ _ rfl rfl _ rfl (by rfl) s1_Msgs (by rfl) (by rfl) ?_; clear H; intro wx H) | (refine wpList_store1_st H rfl 40 _ _ rfl rfl _ rfl (by rfl) s1_Lss (by rfl) (by rfl) ?_; clear H; intro wx H))
    | ((with_reducible refine here_alloc ?_); first | (refine wpList_alloc_st H rfl 46 rfl _ q_zero ?_; clear H; intro gq2 wx H) | (refine wpList_alloc_st H rfl 50 rfl _ ans_zero ?_; clear H; intro ga2 wx H) | (refine wpList_alloc_st H rfl 37 rfl _ ev_zero ?_; clear H; intro ge2 wx H))
    | ((with_reducible refine here_box ?_); first | (refine wpList_box_st H rfl _ _ rfl _ rfl ?_; clear H; intro gb2 wx H)))
      exact HF.out _ (by first | rfl | trivial) (H.subm _)
    · go_upto_region 5 with (first
    | ((with_reducible refine here_store ?_); refine wpList_storePart2_st H rfl 46 _ _ rfl rfl rfl _ (tArr_put _ _ _ _ _ _ _ _ _ _ _) (by kernel_rfl) (by rfl) (by kernel_rfl) ?_; clear H; intro wx H)
    | ((with_reducible refine here_load ?_); first | (refine wpList_load_st H rfl 46 _ rfl rfl row_Queue (by kernel_rfl) ?_) | (refine wpList_load_st H rfl 50 _ rfl rfl row_Answer (by kernel_rfl) ?_) | (refine wpList_load_st H rfl 37 _ rfl rfl row_Event (by kernel_rfl) ?_) | (refine wpList_load1_st H rfl 3 _ rfl rfl sc_int (by rfl) ?_) | (refine wpList_load1_stG H (by rfl) 3 _ rfl rfl sc_int (by rfl) ?_) | (refine wpList_load1_st H rfl 4 _ rfl rfl sc_bool (by rfl) ?_) | (refine wpList_load1_stG H (by rfl) 4 _ rfl rfl sc_bool (by rfl) ?_) | (refine wpList_load1_st H rfl 30 _ rfl rfl sc_Errno (by rfl) ?_) | (refine wpList_load1_stG H (by rfl) 30 _ rfl rfl sc_Errno (by rfl) ?_) | (refine wpList_load1_st H rfl 39 _ rfl rfl sc_Msgs (by rfl) ?_) | (refine wpList_load1_stG H (by rfl) 39 _ rfl rfl sc_Msgs (by rfl) ?_) | (refine wpList_load1_st H rfl 40 _ rfl rfl sc_Lss (by rfl) ?_) | (refine wpList_load1_stG H (by rfl) 40 _ rfl rfl sc_Lss (by rfl) ?_))
    | ((with_reducible refine here_store ?_); first | (refine wpList_store_st H rfl 46 _ _ rfl rfl rfl (by kernel_rfl) (by rfl) (by kernel_rfl) ?_; clear H; intro wx H) | (refine wpList_store_st H rfl 50 _ _ rfl rfl rfl (by kernel_rfl) (by rfl) (by kernel_rfl) ?_; clear H; intro wx H) | (refine wpList_store_st H rfl 37 _ _ rfl rfl rfl (by kernel_rfl) (by rfl) (by kernel_rfl) ?_; clear H; intro wx H) | (refine wpList_store1_st H rfl 3 _ _ rfl rfl _ rfl (by rfl) s1_int (by rfl) (by rfl) ?_; clear H; intro wx H) | (refine wpList_store1_st H rfl 4 _ _ rfl rfl _ rfl (by rfl) s1_bool (by rfl) (by rfl) ?_; clear H; intro wx H) | (refine wpList_store1_st H rfl 30 _ _ rfl rfl _ rfl (by rfl) s1_Errno (by rfl) (by rfl) ?_; clear H; intro wx H) | (refine wpList_store1_st H rfl 39 _ _ rfl rfl _ rfl (by rfl) s1_Msgs (by rfl) (by rfl) ?_; clear H; intro wx H) | (refine wpList_store1_st H rfl 40 _ _ rfl rfl _ rfl (by rfl) s1_Lss (by rfl) (by rfl) ?_; clear H; intro wx H))
    | ((with_reducible refine here_alloc ?_); first | (refine wpList_alloc_st H rfl 46 rfl _ q_zero ?_; clear H; intro gq3 wx H) | (refine wpList_alloc_st H rfl 50 rfl _ ans_zero ?_; clear H; intro ga3 wx H) | (refine wpList_alloc_st H rfl 37 rfl _ ev_zero ?_; clear H; intro ge3 wx H))
    | ((with_reducible refine here_box ?_); first | (refine wpList_box_st H rfl _ _ rfl _ rfl ?_; clear H; intro gb3 wx H)))
      (try simp only [Act.put])
      refine startT (by kernel_rfl) ?_
      have HS := trivial
      replace H := H.drew
      refine takeMove (i := 0) rfl rfl _ (by rfl) (by kernel_rfl) (by kernel_rfl) (by kernel_rfl) (fun _ _ _ _ h => h) (by rfl) HS ?_
      (try simp only [Act.put, List.setIfInBounds_toArray, List.set_cons_zero, List.set_cons_succ])
      refine takeMove (i := 1) rfl rfl _ (by rfl) (by kernel_rfl) (by kernel_rfl) (by kernel_rfl) (fun _ _ _ _ h => h) (by rfl) HS ?_
      (try simp only [Act.put, List.setIfInBounds_toArray, List.set_cons_zero, List.set_cons_succ])
      refine takeV (i := 2) (v := ?_) rfl (by kernel_rfl) (by kernel_rfl) (by kernel_rfl) (fun _ _ _ h => h) (by rfl) ?_ HS ?_
      rotate_left
      · (intro W hW; go_simp; try with_reducible rfl)
      (try simp only [Act.put, List.setIfInBounds_toArray, List.set_cons_zero, List.set_cons_succ])
      refine takeV (i := 3) (v := ?_) rfl (by kernel_rfl) (by kernel_rfl) (by kernel_rfl) (fun _ _ _ h => h) (by rfl) ?_ HS ?_
      rotate_left
      · (intro W hW; go_simp; try with_reducible rfl)
      (try simp only [Act.put, List.setIfInBounds_toArray, List.set_cons_zero, List.set_cons_succ])
      refine branchH [4, 5] (by kernel_rfl) (by kernel_rfl) (AllStep.cons ?_ (AllStep.cons ?_ AllStep.nil))
      · refine stepH_do (i := 4) rfl (by rfl) ?_
        refine wp_load1_st H 81 _ rfl rfl sc_Anss (by rfl) ?_
        refine ⟨trivial, ?_⟩
        (try simp only [Act.put, List.setIfInBounds_toArray, List.set_cons_zero, List.set_cons_succ])
        refine branchH [5] (by kernel_rfl) (by kernel_rfl) (AllStep.cons ?_ AllStep.nil)
        refine stepH_do (i := 5) rfl (by rfl) ?_
        refine wp_loadRow_st H 50 _ rfl rfl row_Answer (by kernel_rfl) ?_
        refine ⟨trivial, ?_⟩
        (try simp only [Act.put, List.setIfInBounds_toArray, List.set_cons_zero, List.set_cons_succ])
        refine branchH [6] (by kernel_rfl) (by kernel_rfl) (AllStep.cons ?_ AllStep.nil)
        refine stepH_do (i := 6) rfl (by rfl) ?_
        refine wp_buildSlice1_st H 81 _ rfl 50 Try.underlying81 _ rfl _ ans_info2 (by rfl) (by rfl) ?_
        clear H
        intro gs wx H
        refine ⟨trivial, ?_⟩
        (try simp only [Act.put, List.setIfInBounds_toArray, List.set_cons_zero, List.set_cons_succ])
        refine branchH [7] (by kernel_rfl) (by kernel_rfl) (AllStep.cons ?_ AllStep.nil)
        refine stepH_do (i := 7) rfl (by rfl) ?_
        refine wp_appendB_st (v := .slice Av n cv) H _ _ 81 rfl rfl rfl Try.underlying81 _ _ ans_info (by rfl) (by rfl) (by rfl) (by kernel_rfl) (by simp only [maxLen]; omega) (by omega) ?_
        clear H
        intro A9 c9 wx hc9 hc9' H
        refine ⟨trivial, ?_⟩
        (try simp only [Act.put, List.setIfInBounds_toArray, List.set_cons_zero, List.set_cons_succ])
        refine takeV (i := 8) (v := ?_) rfl (by kernel_rfl) (by kernel_rfl) (by kernel_rfl) (fun _ _ _ h => h) (by rfl) ?_ HS ?_
        rotate_left
        · (intro W hW; go_simp; try with_reducible rfl)
        (try simp only [Act.put, List.setIfInBounds_toArray, List.set_cons_zero, List.set_cons_succ])
        refine takeV (i := 9) (v := ?_) rfl (by kernel_rfl) (by kernel_rfl) (by kernel_rfl) (fun _ _ _ h => h) (by rfl) ?_ HS ?_
        rotate_left
        · (intro W hW; go_simp; try with_reducible rfl)
        (try simp only [Act.put, List.setIfInBounds_toArray, List.set_cons_zero, List.set_cons_succ])
        refine branchH [10] (by kernel_rfl) (by kernel_rfl) (AllStep.cons ?_ AllStep.nil)
        refine stepH_do (i := 10) rfl (by rfl) ?_
        refine wp_store1_st H 81 _ _ rfl rfl (.slice A9 (n + 1) c9) rfl (by rfl) _ (tArr_ans _ _ _ _ _ _ _) s1_Anss (by rfl) (by rfl) ?_
        clear H
        intro wx H
        refine ⟨trivial, ?_⟩
        (try simp only [Act.put])
        refine doneH (by kernel_rfl) ?_
        rw [anss_snoc] at H
        go_wp2_with fail
        refine HY.out _ (by first | rfl | trivial) ⟨G1, y1, G2, y2, .slice A9 (n + 1) c9, v1, v2, ?_⟩
        rw [List.length_append, HN.out]
        exact H.subm _
      · refine stepH_do (i := 5) rfl (by rfl) ?_
        refine wp_loadRow_st H 50 _ rfl rfl row_Answer (by kernel_rfl) ?_
        refine ⟨trivial, ?_⟩
        (try simp only [Act.put, List.setIfInBounds_toArray, List.set_cons_zero, List.set_cons_succ])
        refine branchH [4, 6] (by kernel_rfl) (by kernel_rfl) (AllStep.cons ?_ (AllStep.cons ?_ AllStep.nil))
        · refine stepH_do (i := 4) rfl (by rfl) ?_
          refine wp_load1_st H 81 _ rfl rfl sc_Anss (by rfl) ?_
          refine ⟨trivial, ?_⟩
          (try simp only [Act.put, List.setIfInBounds_toArray, List.set_cons_zero, List.set_cons_succ])
          refine branchH [6] (by kernel_rfl) (by kernel_rfl) (AllStep.cons ?_ AllStep.nil)
          refine stepH_do (i := 6) rfl (by rfl) ?_
          refine wp_buildSlice1_st H 81 _ rfl 50 Try.underlying81 _ rfl _ ans_info2 (by rfl) (by rfl) ?_
          clear H
          intro gs wx H
          refine ⟨trivial, ?_⟩
          (try simp only [Act.put, List.setIfInBounds_toArray, List.set_cons_zero, List.set_cons_succ])
          refine branchH [7] (by kernel_rfl) (by kernel_rfl) (AllStep.cons ?_ AllStep.nil)
          refine stepH_do (i := 7) rfl (by rfl) ?_
          refine wp_appendB_st (v := .slice Av n cv) H _ _ 81 rfl rfl rfl Try.underlying81 _ _ ans_info (by rfl) (by rfl) (by rfl) (by kernel_rfl) (by simp only [maxLen]; omega) (by omega) ?_
          clear H
          intro A9 c9 wx hc9 hc9' H
          refine ⟨trivial, ?_⟩
          (try simp only [Act.put, List.setIfInBounds_toArray, List.set_cons_zero, List.set_cons_succ])
          refine takeV (i := 8) (v := ?_) rfl (by kernel_rfl) (by kernel_rfl) (by kernel_rfl) (fun _ _ _ h => h) (by rfl) ?_ HS ?_
          rotate_left
          · (intro W hW; go_simp; try with_reducible rfl)
          (try simp only [Act.put, List.setIfInBounds_toArray, List.set_cons_zero, List.set_cons_succ])
          refine takeV (i := 9) (v := ?_) rfl (by kernel_rfl) (by kernel_rfl) (by kernel_rfl) (fun _ _ _ h => h) (by rfl) ?_ HS ?_
          rotate_left
          · (intro W hW; go_simp; try with_reducible rfl)
          (try simp only [Act.put, List.setIfInBounds_toArray, List.set_cons_zero, List.set_cons_succ])
          refine branchH [10] (by kernel_rfl) (by kernel_rfl) (AllStep.cons ?_ AllStep.nil)
          refine stepH_do (i := 10) rfl (by rfl) ?_
          refine wp_store1_st H 81 _ _ rfl rfl (.slice A9 (n + 1) c9) rfl (by rfl) _ (tArr_ans _ _ _ _ _ _ _) s1_Anss (by rfl) (by rfl) ?_
          clear H
          intro wx H
          refine ⟨trivial, ?_⟩
          (try simp only [Act.put])
          refine doneH (by kernel_rfl) ?_
          rw [anss_snoc] at H
          go_wp2_with fail
          refine HY.out _ (by first | rfl | trivial) ⟨G1, y1, G2, y2, .slice A9 (n + 1) c9, v1, v2, ?_⟩
          rw [List.length_append, HN.out]
          exact H.subm _
        · refine stepH_do (i := 6) rfl (by rfl) ?_
          refine wp_buildSlice1_st H 81 _ rfl 50 Try.underlying81 _ rfl _ ans_info2 (by rfl) (by rfl) ?_
          clear H
          intro gs wx H
          refine ⟨trivial, ?_⟩
          (try simp only [Act.put, List.setIfInBounds_toArray, List.set_cons_zero, List.set_cons_succ])
          refine branchH [4] (by kernel_rfl) (by kernel_rfl) (AllStep.cons ?_ AllStep.nil)
          refine stepH_do (i := 4) rfl (by rfl) ?_
          refine wp_load1_st H 81 _ rfl rfl sc_Anss (by rfl) ?_
          refine ⟨trivial, ?_⟩
          (try simp only [Act.put, List.setIfInBounds_toArray, List.set_cons_zero, List.set_cons_succ])
          refine branchH [7] (by kernel_rfl) (by kernel_rfl) (AllStep.cons ?_ AllStep.nil)
          refine stepH_do (i := 7) rfl (by rfl) ?_
          refine wp_appendB_st (v := .slice Av n cv) H _ _ 81 rfl rfl rfl Try.underlying81 _ _ ans_info (by rfl) (by rfl) (by rfl) (by kernel_rfl) (by simp only [maxLen]; omega) (by omega) ?_
          clear H
          intro A9 c9 wx hc9 hc9' H
          refine ⟨trivial, ?_⟩
          (try simp only [Act.put, List.setIfInBounds_toArray, List.set_cons_zero, List.set_cons_succ])
          refine takeV (i := 8) (v := ?_) rfl (by kernel_rfl) (by kernel_rfl) (by kernel_rfl) (fun _ _ _ h => h) (by rfl) ?_ HS ?_
          rotate_left
          · (intro W hW; go_simp; try with_reducible rfl)
          (try simp only [Act.put, List.setIfInBounds_toArray, List.set_cons_zero, List.set_cons_succ])
          refine takeV (i := 9) (v := ?_) rfl (by kernel_rfl) (by kernel_rfl) (by kernel_rfl) (fun _ _ _ h => h) (by rfl) ?_ HS ?_
          rotate_left
          · (intro W hW; go_simp; try with_reducible rfl)
          (try simp only [Act.put, List.setIfInBounds_toArray, List.set_cons_zero, List.set_cons_succ])
          refine branchH [10] (by kernel_rfl) (by kernel_rfl) (AllStep.cons ?_ AllStep.nil)
          refine stepH_do (i := 10) rfl (by rfl) ?_
          refine wp_store1_st H 81 _ _ rfl rfl (.slice A9 (n + 1) c9) rfl (by rfl) _ (tArr_ans _ _ _ _ _ _ _) s1_Anss (by rfl) (by rfl) ?_
          clear H
          intro wx H
          refine ⟨trivial, ?_⟩
          (try simp only [Act.put])
          refine doneH (by kernel_rfl) ?_
          rw [anss_snoc] at H
          go_wp2_with fail
          refine HY.out _ (by first | rfl | trivial) ⟨G1, y1, G2, y2, .slice A9 (n + 1) c9, v1, v2, ?_⟩
          rw [List.length_append, HN.out]
          exact H.subm _

end Go.Proofs.Ytjgbkicnagcmdaa
