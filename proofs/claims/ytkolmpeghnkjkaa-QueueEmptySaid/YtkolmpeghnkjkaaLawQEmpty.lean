/- QueueEmpty: the walk. -/
import Derived.Test.YtkolmpeghnkjkaaQSt
import Derived.Test.YtkolmpeghnkjkaaLawQOrder
import Derived.Deep.QuietTactic
import Derived.BigQuiet
import Derived.Deep.Cut
import Derived.Deep.DeepCutAuto
namespace Go.Proofs.Ytkolmpeghnkjkaa
open Go.RowKit

/-- the message that comes as number j -/
def bodyAt (zs : List Int) (j : Nat) : Int := pick (zs.getD j 0) 1000
def msgsFrom (zs : List Int) (j : Nat) : Nat → List (Int × Int)
  | 0 => []
  | k + 1 => ((j : Int), bodyAt zs j) :: msgsFrom zs (j + 1) k
theorem msgsFrom_len (zs : List Int) : ∀ (k j : Nat), (msgsFrom zs j k).length = k
  | 0, _ => rfl
  | k + 1, j => by simp [msgsFrom, msgsFrom_len zs k (j + 1)]
theorem msgsFrom_snoc (zs : List Int) : ∀ (k j : Nat), msgsFrom zs j k ++ [(((j + k : Nat) : Int), bodyAt zs (j + k))] = msgsFrom zs j (k + 1)
  | 0, j => by simp [msgsFrom]
  | k + 1, j => by
    have ih := msgsFrom_snoc zs k (j + 1)
    have e : j + 1 + k = j + (k + 1) := by omega
    rw [e] at ih
    rw [msgsFrom, List.cons_append, ih]
    rfl
/-- behind i publishes -/
structure Full (zs : List Int) (i : Nat) (q : QM) : Prop where
  inv : q.Inv
  room : q.Room (200 - i)
  nx : q.nx = (i : Int)
  rd : q.rd = msgsFrom zs 0 i
  ls : q.ls = []
  t : q.t 0 = (i : Int)
  s : ∀ x : Int, (i : Int) ≤ x → q.S 0 x = false
theorem full_zero (zs : List Int) : Full zs 0 QM.zero := ⟨QM.zero_inv, ⟨by simp [QM.zero], by simp [QM.zero], by simp [QM.zero], by simp [QM.zero]⟩, rfl, rfl, rfl, rfl, fun _ _ => rfl⟩
theorem bodyAt_bd (zs : List Int) (j : Nat) : 0 ≤ bodyAt zs j ∧ bodyAt zs j ≤ 999 := ⟨pick_lo _ _ (by omega), by have := pick_hi (zs.getD j 0) 1000 (by omega); unfold bodyAt; omega⟩
theorem Full.chk (zs : List Int) {i : Nat} (hi : i < 40) : (⟨1, 0, (i : Int), bodyAt zs i, 0, 0⟩ : Ev).check = 0 := by
  obtain ⟨m0, m1⟩ := bodyAt_bd zs i
  unfold Ev.check
  rw [if_pos rfl, if_pos (by simp [Ev.ok1, inB]; omega), if_pos ⟨rfl, rfl⟩]
theorem Full.next {zs : List Int} {i : Nat} {q : QM} (h : Full zs i q) (hi : i < 40) : ∃ q', q.step ⟨1, 0, (i : Int), bodyAt zs i, 0, 0⟩ = (q', ⟨0, 0, 0, 0⟩, true) ∧ Full zs (i + 1) q' := by
  have hck := Full.chk zs hi
  have hst : q.step ⟨1, 0, (i : Int), bodyAt zs i, 0, 0⟩ = (q.pub 0 i (bodyAt zs i), ⟨0, 0, 0, 0⟩, true) := by
    unfold QM.step
    rw [if_pos rfl]
    have h1 : ¬ (i : Int) < q.t 0 - 8 := by rw [h.t]; omega
    have h2 := h.s i (Int.le_refl _)
    show (if (i : Int) < q.t 0 - 8 then _ else if q.S 0 i = true then _ else _) = _
    rw [if_neg h1, h2, if_neg (by simp)]
    rfl
  refine ⟨_, hst, ?_⟩
  have hinv := h.inv.step hck
  have hroom := QM.Room.step (n := 200 - (i + 1)) (by have := h.room; rwa [show 200 - i = 200 - (i + 1) + 1 by omega] at this) ⟨1, 0, (i : Int), bodyAt zs i, 0, 0⟩
  rw [hst] at hinv hroom
  refine ⟨hinv, hroom, by simp [QM.pub, h.nx], ?_, h.ls, ?_, fun x hx => ?_⟩
  · simp only [QM.pub, h.rd, h.nx]
    have := msgsFrom_snoc zs i 0
    simpa using this
  · simp only [QM.pub, setF, h.t, if_true]
    omega
  · have := h.s x (by omega)
    simp only [QM.pub, setF, if_true, this]
    simp
    omega
/-- behind i rounds of receive and ack -/
structure Less (zs : List Int) (n i : Nat) (q : QM) : Prop where
  inv : q.Inv
  room : q.Room (150 - 2 * i)
  nx : q.nx = (n : Int)
  rd : q.rd = msgsFrom zs i (n - i)
  ls : q.ls = []
theorem Full.less {zs : List Int} {n : Nat} {q : QM} (h : Full zs n q) (hn : n ≤ 40) : Less zs n 0 q := ⟨h.inv, h.room.less (by omega), h.nx, h.rd, h.ls⟩
theorem Less.next {zs : List Int} {n i : Nat} {q : QM} (h : Less zs n i q) (hi : i < n) (hn : n ≤ 40) : ∃ q1 q2 g, q.step ⟨2, 0, 0, 0, 0, 0⟩ = (q1, ⟨0, q.ep, g, bodyAt zs i⟩, true) ∧ q1.Inv ∧ q1.Room 2 ∧ (⟨3, 0, 0, 0, q.ep, g⟩ : Ev).check = 0 ∧ q1.step ⟨3, 0, 0, 0, q.ep, g⟩ = (q2, ⟨0, 0, 0, 0⟩, true) ∧ Less zs n (i + 1) q2 := by
  have hrd : q.rd = ((i : Int), bodyAt zs i) :: msgsFrom zs (i + 1) (n - (i + 1)) := by
    rw [h.rd, show n - i = n - (i + 1) + 1 by omega]
    rfl
  have hst : q.step ⟨2, 0, 0, 0, 0, 0⟩ = (⟨q.ep, q.nx, q.gv + 1, msgsFrom zs (i + 1) (n - (i + 1)), [(q.gv, (i : Int), bodyAt zs i)], q.t, q.S⟩, ⟨0, q.ep, q.gv, bodyAt zs i⟩, true) := by
    simp [QM.step, QM.recv, hrd, h.ls]
  have hinv := h.inv.step (e := ⟨2, 0, 0, 0, 0, 0⟩) (by decide)
  have hroom := QM.Room.step (n := 150 - 2 * (i + 1) + 1) (by have := h.room; rwa [show 150 - 2 * i = 150 - 2 * (i + 1) + 1 + 1 by omega] at this) ⟨2, 0, 0, 0, 0, 0⟩
  rw [hst] at hinv hroom
  have g0 := h.inv.g0
  have g1 := h.room.2.2.1
  have e0 := h.inv.e0
  have e1 := h.room.2.2.2
  have hck : (⟨3, 0, 0, 0, q.ep, q.gv⟩ : Ev).check = 0 := by
    unfold Ev.check
    rw [if_neg (by simp), if_pos rfl, if_pos (by simp [Ev.ok3, inB]; omega), if_pos ⟨rfl, rfl, rfl⟩]
  have hst2 : QM.step ⟨q.ep, q.nx, q.gv + 1, msgsFrom zs (i + 1) (n - (i + 1)), [(q.gv, (i : Int), bodyAt zs i)], q.t, q.S⟩ ⟨3, 0, 0, 0, q.ep, q.gv⟩ = (⟨q.ep, q.nx, q.gv + 1, msgsFrom zs (i + 1) (n - (i + 1)), [], q.t, q.S⟩, ⟨0, 0, 0, 0⟩, true) := by
    simp [QM.step, QM.ack, isNo]
  have hinv2 := hinv.step hck
  have hroom2 := hroom.step ⟨3, 0, 0, 0, q.ep, q.gv⟩
  rw [hst2] at hinv2 hroom2
  exact ⟨_, _, _, hst, hinv, hroom.less (by omega), hck, hst2, hinv2, hroom2, h.nx, rfl, rfl⟩

set_option maxRecDepth 100000 in
set_option maxHeartbeats 8000000 in
theorem queueEmpty_walk (A : Option Addr) (n c : Nat) (zs : List Int) (w : World) (h : IsNums .i64 8 w A n c zs) :
    Calls Try.prog 9 #[.slice A n c] w fun e w' => e = .returned (.bool true) ∧ Below w.heap.size w w' := by
  have H := St.start w
  obtain ⟨hl, hnc, hcb, hr, hwf⟩ := h
  have hwf := Lib.hid hwf
  have hn8 : n ≤ 17592186044404 := by omega
  obtain ⟨N, hN⟩ : ∃ N, min n 40 = N := ⟨_, rfl⟩
  go_enter Try.func9, Try.ntmps9
  have hN2 : N ≤ 40 ∧ N ≤ n := by omega
  have HN := Lib.hid hN
  clear hN
  have hmin : min (n : Int) 40 = (N : Int) := by have := HN.out; omega
  go_upto_region 4 with (first
    | ((with_reducible refine here_load ?_); first | (refine wpList_load_st H rfl 30 _ rfl rfl row_Queue (by kernel_rfl) ?_) | (refine wpList_load_st H rfl 47 _ rfl rfl row_Answer (by kernel_rfl) ?_) | (refine wpList_load_st H rfl 45 _ rfl rfl row_Event (by kernel_rfl) ?_) | (refine wpList_load1_st H rfl 3 _ rfl rfl sc_int (by rfl) ?_) | (refine wpList_load1_stG H (by rfl) 3 _ rfl rfl sc_int (by rfl) ?_) | (refine wpList_load1_st H rfl 4 _ rfl rfl sc_bool (by rfl) ?_) | (refine wpList_load1_stG H (by rfl) 4 _ rfl rfl sc_bool (by rfl) ?_) | (refine wpList_load1_st H rfl 40 _ rfl rfl sc_Errno (by rfl) ?_) | (refine wpList_load1_stG H (by rfl) 40 _ rfl rfl sc_Errno (by rfl) ?_) | (refine wpList_load1_st H rfl 23 _ rfl rfl sc_Msgs (by rfl) ?_) | (refine wpList_load1_stG H (by rfl) 23 _ rfl rfl sc_Msgs (by rfl) ?_) | (refine wpList_load1_st H rfl 24 _ rfl rfl sc_Lss (by rfl) ?_) | (refine wpList_load1_stG H (by rfl) 24 _ rfl rfl sc_Lss (by rfl) ?_))
    | ((with_reducible refine here_store ?_); first | (refine wpList_store_st H rfl 30 _ _ rfl rfl rfl (by kernel_rfl) (by rfl) (by kernel_rfl) ?_; clear H; intro wx H) | (refine wpList_store_st H rfl 47 _ _ rfl rfl rfl (by kernel_rfl) (by rfl) (by kernel_rfl) ?_; clear H; intro wx H) | (refine wpList_store_st H rfl 45 _ _ rfl rfl rfl (by kernel_rfl) (by rfl) (by kernel_rfl) ?_; clear H; intro wx H) | (refine wpList_store1_st H rfl 3 _ _ rfl rfl _ rfl (by rfl) s1_int (by rfl) (by rfl) ?_; clear H; intro wx H) | (refine wpList_store1_st H rfl 4 _ _ rfl rfl _ rfl (by rfl) s1_bool (by rfl) (by rfl) ?_; clear H; intro wx H) | (refine wpList_store1_st H rfl 40 _ _ rfl rfl _ rfl (by rfl) s1_Errno (by rfl) (by rfl) ?_; clear H; intro wx H) | (refine wpList_store1_st H rfl 23 _ _ rfl rfl _ rfl (by rfl) s1_Msgs (by rfl) (by rfl) ?_; clear H; intro wx H) | (refine wpList_store1_st H rfl 24 _ _ rfl rfl _ rfl (by rfl) s1_Lss (by rfl) (by rfl) ?_; clear H; intro wx H))
    | ((with_reducible refine here_alloc ?_); first | (refine wpList_alloc_st H rfl 30 rfl _ q_zero ?_; clear H; intro gq wx H) | (refine wpList_alloc_st H rfl 47 rfl _ ans_zero ?_; clear H; intro ga wx H) | (refine wpList_alloc_st H rfl 45 rfl _ ev_zero ?_; clear H; intro ge wx H))
    | ((with_reducible refine here_box ?_); first | (refine wpList_box_st H rfl _ _ rfl _ rfl ?_; clear H; intro gb wx H)))
  clear hmin
  have hN3 : N ≤ 40 := hN2.1
  have hN4 : N ≤ n := hN2.2
  have HR := Lib.hid hr
  clear hr hN2
  go_loopw [5] (fun s5 wr => ∃ (i : Nat) (q : QM), i ≤ N ∧ s5 = .int .i64 i ∧ Full zs i q ∧ QAt w wr gq q) (fun s5 _ => N - (intOf s5).toNat)
  case atStart => exact ⟨0, QM.zero, by omega, rfl, full_zero zs, none, 0, none, 0, by simp [QM.zero], by simp [QM.zero], (show St w wx [rdIt QM.zero none, lsIt QM.zero none, .bl gq 30 (qArr QM.zero none 0 none 0)] from (H.old (s := 4) (n := 0) (A := none) (xs := []) Reads.none_).old (s := 2) (n := 0) (A := none) (xs := []) Reads.none_).subm _⟩
  case round =>
    clear H
    obtain ⟨i, q, hi, rfl, hf, B1, d1, B2, d2, k1, k2, H⟩ := hrel
    by_cases hlt : i < N
    · obtain ⟨q', hst, hf'⟩ := hf.next (by omega)
      have CD := Lib.hid (fun W I H h1 h2 => do_st (w0 := w) (w := W) (I := I) (h1 := h1) (h2 := h2) q ⟨1, 0, (i : Int), bodyAt zs i, 0, 0⟩ (A1 := B1) (A2 := B2) (c1 := d1) (c2 := d2) H hf.inv (hf.room.less (by omega)) (Full.chk zs (by omega)) k1 k2)
      rw [hst] at CD
      simp only [QA.val, ansV] at CD
      have hgz : (zs.map (Value.int .i64))[i]? = some (.int .i64 (zs.getD i 0)) := by
        rw [List.getElem?_map, List.getElem?_eq_getElem (show i < zs.length by omega)]
        simp [List.getD, List.getElem?_eq_getElem (show i < zs.length by omega)]
      obtain ⟨z1, z2⟩ := is64_of_wf (hwf.out (zs.getD i 0) (by rw [List.getD, List.getElem?_eq_getElem (show i < zs.length by omega)]; exact List.getElem_mem _))
      have PB := Lib.hid (fun W => picked_any (zs.getD i 0) 1000 W z1 z2 (by omega) (by omega))
      obtain ⟨b, off, hA2, hb, hc⟩ := HR.out.plain (by omega) (by omega)
      subst hA2
      have hc0 := hc i _ hgz
      have HC0 := Lib.hid (fun W (hW : Below w.heap.size w W) => (hW.cell (p := ⟨b, off + i, none⟩) hb).trans hc0)
      have hI1 : (i : Int) < (n : Int) := by omega
      have hI0 : (0 : Int) ≤ (i : Int) := by omega
      have hI2 : (n : Int) ≤ (c : Int) := by omega
      have hIN : (i : Int) < (N : Int) := by omega
      have w1 : IntKind.i64.wrap ((i : Int) + 1) = (i : Int) + 1 := IntWalk.i64_in _ (by omega)
      have HF := Lib.hid hf'
      clear hc hc0 hgz hst hf hf' hb
      rw [show pick (zs.getD i 0) 1000 = bodyAt zs i from rfl] at PB
      go_upto_region 6 with (first
    | ((with_reducible refine here_load ?_); first | (refine wpList_load_st H rfl 30 _ rfl rfl row_Queue (by kernel_rfl) ?_) | (refine wpList_load_st H rfl 47 _ rfl rfl row_Answer (by kernel_rfl) ?_) | (refine wpList_load_st H rfl 45 _ rfl rfl row_Event (by kernel_rfl) ?_) | (refine wpList_load1_st H rfl 3 _ rfl rfl sc_int (by rfl) ?_) | (refine wpList_load1_stG H (by rfl) 3 _ rfl rfl sc_int (by rfl) ?_) | (refine wpList_load1_st H rfl 4 _ rfl rfl sc_bool (by rfl) ?_) | (refine wpList_load1_stG H (by rfl) 4 _ rfl rfl sc_bool (by rfl) ?_) | (refine wpList_load1_st H rfl 40 _ rfl rfl sc_Errno (by rfl) ?_) | (refine wpList_load1_stG H (by rfl) 40 _ rfl rfl sc_Errno (by rfl) ?_) | (refine wpList_load1_st H rfl 23 _ rfl rfl sc_Msgs (by rfl) ?_) | (refine wpList_load1_stG H (by rfl) 23 _ rfl rfl sc_Msgs (by rfl) ?_) | (refine wpList_load1_st H rfl 24 _ rfl rfl sc_Lss (by rfl) ?_) | (refine wpList_load1_stG H (by rfl) 24 _ rfl rfl sc_Lss (by rfl) ?_))
    | ((with_reducible refine here_store ?_); first | (refine wpList_store_st H rfl 30 _ _ rfl rfl rfl (by kernel_rfl) (by rfl) (by kernel_rfl) ?_; clear H; intro wx H) | (refine wpList_store_st H rfl 47 _ _ rfl rfl rfl (by kernel_rfl) (by rfl) (by kernel_rfl) ?_; clear H; intro wx H) | (refine wpList_store_st H rfl 45 _ _ rfl rfl rfl (by kernel_rfl) (by rfl) (by kernel_rfl) ?_; clear H; intro wx H) | (refine wpList_store1_st H rfl 3 _ _ rfl rfl _ rfl (by rfl) s1_int (by rfl) (by rfl) ?_; clear H; intro wx H) | (refine wpList_store1_st H rfl 4 _ _ rfl rfl _ rfl (by rfl) s1_bool (by rfl) (by rfl) ?_; clear H; intro wx H) | (refine wpList_store1_st H rfl 40 _ _ rfl rfl _ rfl (by rfl) s1_Errno (by rfl) (by rfl) ?_; clear H; intro wx H) | (refine wpList_store1_st H rfl 23 _ _ rfl rfl _ rfl (by rfl) s1_Msgs (by rfl) (by rfl) ?_; clear H; intro wx H) | (refine wpList_store1_st H rfl 24 _ _ rfl rfl _ rfl (by rfl) s1_Lss (by rfl) (by rfl) ?_; clear H; intro wx H))
    | ((with_reducible refine here_alloc ?_); first | (refine wpList_alloc_st H rfl 30 rfl _ q_zero ?_; clear H; intro gq2 wx H) | (refine wpList_alloc_st H rfl 47 rfl _ ans_zero ?_; clear H; intro ga2 wx H) | (refine wpList_alloc_st H rfl 45 rfl _ ev_zero ?_; clear H; intro ge2 wx H))
    | ((with_reducible refine here_box ?_); first | (refine wpList_box_st H rfl _ _ rfl _ rfl ?_; clear H; intro gb2 wx H)))
      go_cut [6, 7, 8, 9] (fun s6 s7 s8 s9 wx => ∃ g1 g2 G1 y1 G2 y2, s6 = .pointer (some ⟨g1, 0, none⟩) ∧ s7 = .pointer (some ⟨g2, 0, none⟩) ∧ s8 = .bool true ∧ s9 = .int .i64 0 ∧ q'.rd.length ≤ y1 ∧ q'.ls.length ≤ y2 ∧
        St w wx [.bl g1 30 (qArr q' G1 y1 G2 y2), .bl g2 47 #[.int .i64 0, .int .i64 0, .int .i64 0, .int .i64 0], .bl gq 30 (qArr q B1 d1 B2 d2), rdIt q' G1, lsIt q' G2])
      case first =>
        refine startS H (by kernel_rfl) (fun HS => ?_)
        replace H := HS
        refine takeRow_st (i := 0) 30 _ rfl rfl rfl row_Queue (by kernel_rfl) (by kernel_rfl) (by kernel_rfl) (by kernel_rfl) (fun _ _ _ _ h => h) (by rfl) HS ?_
        (try simp only [Act.put, List.setIfInBounds_toArray, List.set_cons_zero, List.set_cons_succ])
        refine takeMove (i := 1) rfl rfl _ (by rfl) (by kernel_rfl) (by kernel_rfl) (by kernel_rfl) (fun _ _ _ _ h => h) (by rfl) HS ?_
        (try simp only [Act.put, List.setIfInBounds_toArray, List.set_cons_zero, List.set_cons_succ])
        refine takeMove (i := 2) rfl rfl _ (by rfl) (by kernel_rfl) (by kernel_rfl) (by kernel_rfl) (fun _ _ _ _ h => h) (by rfl) HS ?_
        (try simp only [Act.put, List.setIfInBounds_toArray, List.set_cons_zero, List.set_cons_succ])
        refine takeMove (i := 3) rfl rfl _ (by rfl) (by kernel_rfl) (by kernel_rfl) (by kernel_rfl) (fun _ _ _ _ h => h) (by rfl) HS ?_
        (try simp only [Act.put, List.setIfInBounds_toArray, List.set_cons_zero, List.set_cons_succ])
        refine takeV (i := 4) (v := ?_) rfl (by kernel_rfl) (by kernel_rfl) (by kernel_rfl) (fun _ _ _ h => h) (by rfl) ?_ HS ?_
        rotate_left
        · (intro W hW; go_simp; try with_reducible rfl)
        (try simp only [Act.put, List.setIfInBounds_toArray, List.set_cons_zero, List.set_cons_succ])
        refine takeV (i := 5) (v := ?_) rfl (by kernel_rfl) (by kernel_rfl) (by kernel_rfl) (fun _ _ _ h => h) (by rfl) ?_ HS ?_
        rotate_left
        · (intro W hW; have c0 := HC0.out W hW.bel; go_simp; try with_reducible rfl)
        (try simp only [Act.put, List.setIfInBounds_toArray, List.set_cons_zero, List.set_cons_succ])
        refine branchH [6, 14, 15] (by kernel_rfl) (by kernel_rfl) (AllStep.cons ?_ (AllStep.cons ?_ (AllStep.cons ?_ AllStep.nil)))
        · refine stepH_do (i := 6) rfl (by rfl) ?_
          refine wp_call_st rfl Try.func17 (by kernel_rfl) (by kernel_rfl) _ ?_ ((PB.out _).mono ?_)
          · rfl
          rintro ed wy ⟨rfl, rfl⟩
          replace HS := HS.of H
          refine ⟨_, rfl, HS, ?_⟩
          (try simp only [Act.put, List.setIfInBounds_toArray, List.set_cons_zero, List.set_cons_succ])
          refine takeV (i := 7) (v := ?_) rfl (by kernel_rfl) (by kernel_rfl) (by kernel_rfl) (fun _ _ _ h => h) (by rfl) ?_ HS ?_
          rotate_left
          · (intro W hW; go_simp; try with_reducible rfl)
          (try simp only [Act.put, List.setIfInBounds_toArray, List.set_cons_zero, List.set_cons_succ])
          refine branchH [8, 14, 15] (by kernel_rfl) (by kernel_rfl) (AllStep.cons ?_ (AllStep.cons ?_ (AllStep.cons ?_ AllStep.nil)))
          · refine stepH_do (i := 8) rfl (by rfl) ?_
            refine wp_call_st rfl Try.func19 (by kernel_rfl) (by kernel_rfl) _ ?_ ((CD.out _ _ H inferInstance inferInstance).mono ?_)
            · rfl
            rintro ed wy ⟨G1, y1, G2, y2, rfl, v1, v2, H⟩
            replace HS := HS.of H
            refine ⟨_, rfl, HS, ?_⟩
            (try simp only [Act.put, List.setIfInBounds_toArray, List.set_cons_zero, List.set_cons_succ])
            refine takeMove (i := 9) rfl rfl _ (by rfl) (by kernel_rfl) (by kernel_rfl) (by kernel_rfl) (fun _ _ _ _ h => h) (by rfl) HS ?_
            (try simp only [Act.put, List.setIfInBounds_toArray, List.set_cons_zero, List.set_cons_succ])
            refine takeExtract (i := 10) rfl rfl _ _ (by rfl) (by rfl) (by kernel_rfl) (by kernel_rfl) (by kernel_rfl) (fun _ _ _ _ h => h) (by rfl) HS ?_
            (try simp only [Act.put, List.setIfInBounds_toArray, List.set_cons_zero, List.set_cons_succ])
            refine takeExtract (i := 11) rfl rfl _ _ (by rfl) (by rfl) (by kernel_rfl) (by kernel_rfl) (by kernel_rfl) (fun _ _ _ _ h => h) (by rfl) HS ?_
            (try simp only [Act.put, List.setIfInBounds_toArray, List.set_cons_zero, List.set_cons_succ])
            refine takeExtract (i := 12) rfl rfl _ _ (by rfl) (by rfl) (by kernel_rfl) (by kernel_rfl) (by kernel_rfl) (fun _ _ _ _ h => h) (by rfl) HS ?_
            (try simp only [Act.put, List.setIfInBounds_toArray, List.set_cons_zero, List.set_cons_succ])
            refine takeExtract (i := 13) rfl rfl _ _ (by rfl) (by rfl) (by kernel_rfl) (by kernel_rfl) (by kernel_rfl) (fun _ _ _ _ h => h) (by rfl) HS ?_
            (try simp only [Act.put, List.setIfInBounds_toArray, List.set_cons_zero, List.set_cons_succ])
            refine branchH [14, 15] (by kernel_rfl) (by kernel_rfl) (AllStep.cons ?_ (AllStep.cons ?_ AllStep.nil))
            · refine stepH_do (i := 14) rfl (by rfl) ?_
              refine wp_alloc_st H 30 rfl _ q_zero ?_
              clear H
              intro gq9 wx H
              replace HS := HS.of H
              refine ⟨HS, ?_⟩
              (try simp only [Act.put, List.setIfInBounds_toArray, List.set_cons_zero, List.set_cons_succ])
              refine branchH [15] (by kernel_rfl) (by kernel_rfl) (AllStep.cons ?_ AllStep.nil)
              refine stepH_do (i := 15) rfl (by rfl) ?_
              refine wp_alloc_st H 47 rfl _ ans_zero ?_
              clear H
              intro ga9 wx H
              replace HS := HS.of H
              refine ⟨HS, ?_⟩
              (try simp only [Act.put, List.setIfInBounds_toArray, List.set_cons_zero, List.set_cons_succ])
              refine branchH [16] (by kernel_rfl) (by kernel_rfl) (AllStep.cons ?_ AllStep.nil)
              refine stepH_do (i := 16) rfl (by rfl) ?_
              refine wp_store_st H 30 _ _ rfl rfl rfl (by kernel_rfl) (by rfl) (by kernel_rfl) ?_
              clear H
              intro wx H
              replace HS := HS.of H
              refine ⟨HS, ?_⟩
              (try simp only [Act.put])
              refine branchH [17] (by kernel_rfl) (by kernel_rfl) (AllStep.cons ?_ AllStep.nil)
              refine stepH_do (i := 17) rfl (by rfl) ?_
              refine wp_store_st H 47 _ _ rfl rfl rfl (by kernel_rfl) (by rfl) (by kernel_rfl) ?_
              clear H
              intro wx H
              replace HS := HS.of H
              refine ⟨HS, ?_⟩
              (try simp only [Act.put])
              refine takeAssign (i := 18) rfl rfl _ (by rfl) (by kernel_rfl) (by kernel_rfl) (by kernel_rfl) (fun _ _ _ _ h => h) (by rfl) HS ?_
              (try simp only [Act.put, List.setIfInBounds_toArray, List.set_cons_zero, List.set_cons_succ])
              refine takeAssign (i := 19) rfl rfl _ (by rfl) (by kernel_rfl) (by kernel_rfl) (by kernel_rfl) (fun _ _ _ _ h => h) (by rfl) HS ?_
              (try simp only [Act.put, List.setIfInBounds_toArray, List.set_cons_zero, List.set_cons_succ])
              refine doneH (by kernel_rfl) ?_
              go_wp2_with fail
              go_meet
              exact ⟨_, _, G1, y1, G2, y2, rfl, rfl, rfl, rfl, v1, v2, H.subm _⟩
            · refine stepH_do (i := 15) rfl (by rfl) ?_
              refine wp_alloc_st H 47 rfl _ ans_zero ?_
              clear H
              intro ga9 wx H
              replace HS := HS.of H
              refine ⟨HS, ?_⟩
              (try simp only [Act.put, List.setIfInBounds_toArray, List.set_cons_zero, List.set_cons_succ])
              refine branchH [14] (by kernel_rfl) (by kernel_rfl) (AllStep.cons ?_ AllStep.nil)
              refine stepH_do (i := 14) rfl (by rfl) ?_
              refine wp_alloc_st H 30 rfl _ q_zero ?_
              clear H
              intro gq9 wx H
              replace HS := HS.of H
              refine ⟨HS, ?_⟩
              (try simp only [Act.put, List.setIfInBounds_toArray, List.set_cons_zero, List.set_cons_succ])
              refine branchH [16] (by kernel_rfl) (by kernel_rfl) (AllStep.cons ?_ AllStep.nil)
              refine stepH_do (i := 16) rfl (by rfl) ?_
              refine wp_store_st H 30 _ _ rfl rfl rfl (by kernel_rfl) (by rfl) (by kernel_rfl) ?_
              clear H
              intro wx H
              replace HS := HS.of H
              refine ⟨HS, ?_⟩
              (try simp only [Act.put])
              refine branchH [17] (by kernel_rfl) (by kernel_rfl) (AllStep.cons ?_ AllStep.nil)
              refine stepH_do (i := 17) rfl (by rfl) ?_
              refine wp_store_st H 47 _ _ rfl rfl rfl (by kernel_rfl) (by rfl) (by kernel_rfl) ?_
              clear H
              intro wx H
              replace HS := HS.of H
              refine ⟨HS, ?_⟩
              (try simp only [Act.put])
              refine takeAssign (i := 18) rfl rfl _ (by rfl) (by kernel_rfl) (by kernel_rfl) (by kernel_rfl) (fun _ _ _ _ h => h) (by rfl) HS ?_
              (try simp only [Act.put, List.setIfInBounds_toArray, List.set_cons_zero, List.set_cons_succ])
              refine takeAssign (i := 19) rfl rfl _ (by rfl) (by kernel_rfl) (by kernel_rfl) (by kernel_rfl) (fun _ _ _ _ h => h) (by rfl) HS ?_
              (try simp only [Act.put, List.setIfInBounds_toArray, List.set_cons_zero, List.set_cons_succ])
              refine doneH (by kernel_rfl) ?_
              go_wp2_with fail
              go_meet
              exact ⟨_, _, G1, y1, G2, y2, rfl, rfl, rfl, rfl, v1, v2, H.subm _⟩
          · refine stepH_do (i := 14) rfl (by rfl) ?_
            refine wp_alloc_st H 30 rfl _ q_zero ?_
            clear H
            intro gq9 wx H
            replace HS := HS.of H
            refine ⟨HS, ?_⟩
            (try simp only [Act.put, List.setIfInBounds_toArray, List.set_cons_zero, List.set_cons_succ])
            refine branchH [8, 15] (by kernel_rfl) (by kernel_rfl) (AllStep.cons ?_ (AllStep.cons ?_ AllStep.nil))
            · refine stepH_do (i := 8) rfl (by rfl) ?_
              refine wp_call_st rfl Try.func19 (by kernel_rfl) (by kernel_rfl) _ ?_ ((CD.out _ _ H inferInstance inferInstance).mono ?_)
              · rfl
              rintro ed wy ⟨G1, y1, G2, y2, rfl, v1, v2, H⟩
              replace HS := HS.of H
              refine ⟨_, rfl, HS, ?_⟩
              (try simp only [Act.put, List.setIfInBounds_toArray, List.set_cons_zero, List.set_cons_succ])
              refine takeMove (i := 9) rfl rfl _ (by rfl) (by kernel_rfl) (by kernel_rfl) (by kernel_rfl) (fun _ _ _ _ h => h) (by rfl) HS ?_
              (try simp only [Act.put, List.setIfInBounds_toArray, List.set_cons_zero, List.set_cons_succ])
              refine takeExtract (i := 10) rfl rfl _ _ (by rfl) (by rfl) (by kernel_rfl) (by kernel_rfl) (by kernel_rfl) (fun _ _ _ _ h => h) (by rfl) HS ?_
              (try simp only [Act.put, List.setIfInBounds_toArray, List.set_cons_zero, List.set_cons_succ])
              refine takeExtract (i := 11) rfl rfl _ _ (by rfl) (by rfl) (by kernel_rfl) (by kernel_rfl) (by kernel_rfl) (fun _ _ _ _ h => h) (by rfl) HS ?_
              (try simp only [Act.put, List.setIfInBounds_toArray, List.set_cons_zero, List.set_cons_succ])
              refine takeExtract (i := 12) rfl rfl _ _ (by rfl) (by rfl) (by kernel_rfl) (by kernel_rfl) (by kernel_rfl) (fun _ _ _ _ h => h) (by rfl) HS ?_
              (try simp only [Act.put, List.setIfInBounds_toArray, List.set_cons_zero, List.set_cons_succ])
              refine takeExtract (i := 13) rfl rfl _ _ (by rfl) (by rfl) (by kernel_rfl) (by kernel_rfl) (by kernel_rfl) (fun _ _ _ _ h => h) (by rfl) HS ?_
              (try simp only [Act.put, List.setIfInBounds_toArray, List.set_cons_zero, List.set_cons_succ])
              refine branchH [15] (by kernel_rfl) (by kernel_rfl) (AllStep.cons ?_ AllStep.nil)
              refine stepH_do (i := 15) rfl (by rfl) ?_
              refine wp_alloc_st H 47 rfl _ ans_zero ?_
              clear H
              intro ga9 wx H
              replace HS := HS.of H
              refine ⟨HS, ?_⟩
              (try simp only [Act.put, List.setIfInBounds_toArray, List.set_cons_zero, List.set_cons_succ])
              refine branchH [16] (by kernel_rfl) (by kernel_rfl) (AllStep.cons ?_ AllStep.nil)
              refine stepH_do (i := 16) rfl (by rfl) ?_
              refine wp_store_st H 30 _ _ rfl rfl rfl (by kernel_rfl) (by rfl) (by kernel_rfl) ?_
              clear H
              intro wx H
              replace HS := HS.of H
              refine ⟨HS, ?_⟩
              (try simp only [Act.put])
              refine branchH [17] (by kernel_rfl) (by kernel_rfl) (AllStep.cons ?_ AllStep.nil)
              refine stepH_do (i := 17) rfl (by rfl) ?_
              refine wp_store_st H 47 _ _ rfl rfl rfl (by kernel_rfl) (by rfl) (by kernel_rfl) ?_
              clear H
              intro wx H
              replace HS := HS.of H
              refine ⟨HS, ?_⟩
              (try simp only [Act.put])
              refine takeAssign (i := 18) rfl rfl _ (by rfl) (by kernel_rfl) (by kernel_rfl) (by kernel_rfl) (fun _ _ _ _ h => h) (by rfl) HS ?_
              (try simp only [Act.put, List.setIfInBounds_toArray, List.set_cons_zero, List.set_cons_succ])
              refine takeAssign (i := 19) rfl rfl _ (by rfl) (by kernel_rfl) (by kernel_rfl) (by kernel_rfl) (fun _ _ _ _ h => h) (by rfl) HS ?_
              (try simp only [Act.put, List.setIfInBounds_toArray, List.set_cons_zero, List.set_cons_succ])
              refine doneH (by kernel_rfl) ?_
              go_wp2_with fail
              go_meet
              exact ⟨_, _, G1, y1, G2, y2, rfl, rfl, rfl, rfl, v1, v2, H.subm _⟩
            · refine stepH_do (i := 15) rfl (by rfl) ?_
              refine wp_alloc_st H 47 rfl _ ans_zero ?_
              clear H
              intro ga9 wx H
              replace HS := HS.of H
              refine ⟨HS, ?_⟩
              (try simp only [Act.put, List.setIfInBounds_toArray, List.set_cons_zero, List.set_cons_succ])
              refine branchH [8] (by kernel_rfl) (by kernel_rfl) (AllStep.cons ?_ AllStep.nil)
              refine stepH_do (i := 8) rfl (by rfl) ?_
              refine wp_call_st rfl Try.func19 (by kernel_rfl) (by kernel_rfl) _ ?_ ((CD.out _ _ H inferInstance inferInstance).mono ?_)
              · rfl
              rintro ed wy ⟨G1, y1, G2, y2, rfl, v1, v2, H⟩
              replace HS := HS.of H
              refine ⟨_, rfl, HS, ?_⟩
              (try simp only [Act.put, List.setIfInBounds_toArray, List.set_cons_zero, List.set_cons_succ])
              refine takeMove (i := 9) rfl rfl _ (by rfl) (by kernel_rfl) (by kernel_rfl) (by kernel_rfl) (fun _ _ _ _ h => h) (by rfl) HS ?_
              (try simp only [Act.put, List.setIfInBounds_toArray, List.set_cons_zero, List.set_cons_succ])
              refine takeExtract (i := 10) rfl rfl _ _ (by rfl) (by rfl) (by kernel_rfl) (by kernel_rfl) (by kernel_rfl) (fun _ _ _ _ h => h) (by rfl) HS ?_
              (try simp only [Act.put, List.setIfInBounds_toArray, List.set_cons_zero, List.set_cons_succ])
              refine takeExtract (i := 11) rfl rfl _ _ (by rfl) (by rfl) (by kernel_rfl) (by kernel_rfl) (by kernel_rfl) (fun _ _ _ _ h => h) (by rfl) HS ?_
              (try simp only [Act.put, List.setIfInBounds_toArray, List.set_cons_zero, List.set_cons_succ])
              refine takeExtract (i := 12) rfl rfl _ _ (by rfl) (by rfl) (by kernel_rfl) (by kernel_rfl) (by kernel_rfl) (fun _ _ _ _ h => h) (by rfl) HS ?_
              (try simp only [Act.put, List.setIfInBounds_toArray, List.set_cons_zero, List.set_cons_succ])
              refine takeExtract (i := 13) rfl rfl _ _ (by rfl) (by rfl) (by kernel_rfl) (by kernel_rfl) (by kernel_rfl) (fun _ _ _ _ h => h) (by rfl) HS ?_
              (try simp only [Act.put, List.setIfInBounds_toArray, List.set_cons_zero, List.set_cons_succ])
              refine branchH [16] (by kernel_rfl) (by kernel_rfl) (AllStep.cons ?_ AllStep.nil)
              refine stepH_do (i := 16) rfl (by rfl) ?_
              refine wp_store_st H 30 _ _ rfl rfl rfl (by kernel_rfl) (by rfl) (by kernel_rfl) ?_
              clear H
              intro wx H
              replace HS := HS.of H
              refine ⟨HS, ?_⟩
              (try simp only [Act.put])
              refine branchH [17] (by kernel_rfl) (by kernel_rfl) (AllStep.cons ?_ AllStep.nil)
              refine stepH_do (i := 17) rfl (by rfl) ?_
              refine wp_store_st H 47 _ _ rfl rfl rfl (by kernel_rfl) (by rfl) (by kernel_rfl) ?_
              clear H
              intro wx H
              replace HS := HS.of H
              refine ⟨HS, ?_⟩
              (try simp only [Act.put])
              refine takeAssign (i := 18) rfl rfl _ (by rfl) (by kernel_rfl) (by kernel_rfl) (by kernel_rfl) (fun _ _ _ _ h => h) (by rfl) HS ?_
              (try simp only [Act.put, List.setIfInBounds_toArray, List.set_cons_zero, List.set_cons_succ])
              refine takeAssign (i := 19) rfl rfl _ (by rfl) (by kernel_rfl) (by kernel_rfl) (by kernel_rfl) (fun _ _ _ _ h => h) (by rfl) HS ?_
              (try simp only [Act.put, List.setIfInBounds_toArray, List.set_cons_zero, List.set_cons_succ])
              refine doneH (by kernel_rfl) ?_
              go_wp2_with fail
              go_meet
              exact ⟨_, _, G1, y1, G2, y2, rfl, rfl, rfl, rfl, v1, v2, H.subm _⟩
          · refine stepH_do (i := 15) rfl (by rfl) ?_
            refine wp_alloc_st H 47 rfl _ ans_zero ?_
            clear H
            intro ga9 wx H
            replace HS := HS.of H
            refine ⟨HS, ?_⟩
            (try simp only [Act.put, List.setIfInBounds_toArray, List.set_cons_zero, List.set_cons_succ])
            refine branchH [8, 14] (by kernel_rfl) (by kernel_rfl) (AllStep.cons ?_ (AllStep.cons ?_ AllStep.nil))
            · refine stepH_do (i := 8) rfl (by rfl) ?_
              refine wp_call_st rfl Try.func19 (by kernel_rfl) (by kernel_rfl) _ ?_ ((CD.out _ _ H inferInstance inferInstance).mono ?_)
              · rfl
              rintro ed wy ⟨G1, y1, G2, y2, rfl, v1, v2, H⟩
              replace HS := HS.of H
              refine ⟨_, rfl, HS, ?_⟩
              (try simp only [Act.put, List.setIfInBounds_toArray, List.set_cons_zero, List.set_cons_succ])
              refine takeMove (i := 9) rfl rfl _ (by rfl) (by kernel_rfl) (by kernel_rfl) (by kernel_rfl) (fun _ _ _ _ h => h) (by rfl) HS ?_
              (try simp only [Act.put, List.setIfInBounds_toArray, List.set_cons_zero, List.set_cons_succ])
              refine takeExtract (i := 10) rfl rfl _ _ (by rfl) (by rfl) (by kernel_rfl) (by kernel_rfl) (by kernel_rfl) (fun _ _ _ _ h => h) (by rfl) HS ?_
              (try simp only [Act.put, List.setIfInBounds_toArray, List.set_cons_zero, List.set_cons_succ])
              refine takeExtract (i := 11) rfl rfl _ _ (by rfl) (by rfl) (by kernel_rfl) (by kernel_rfl) (by kernel_rfl) (fun _ _ _ _ h => h) (by rfl) HS ?_
              (try simp only [Act.put, List.setIfInBounds_toArray, List.set_cons_zero, List.set_cons_succ])
              refine takeExtract (i := 12) rfl rfl _ _ (by rfl) (by rfl) (by kernel_rfl) (by kernel_rfl) (by kernel_rfl) (fun _ _ _ _ h => h) (by rfl) HS ?_
              (try simp only [Act.put, List.setIfInBounds_toArray, List.set_cons_zero, List.set_cons_succ])
              refine takeExtract (i := 13) rfl rfl _ _ (by rfl) (by rfl) (by kernel_rfl) (by kernel_rfl) (by kernel_rfl) (fun _ _ _ _ h => h) (by rfl) HS ?_
              (try simp only [Act.put, List.setIfInBounds_toArray, List.set_cons_zero, List.set_cons_succ])
              refine branchH [14] (by kernel_rfl) (by kernel_rfl) (AllStep.cons ?_ AllStep.nil)
              refine stepH_do (i := 14) rfl (by rfl) ?_
              refine wp_alloc_st H 30 rfl _ q_zero ?_
              clear H
              intro gq9 wx H
              replace HS := HS.of H
              refine ⟨HS, ?_⟩
              (try simp only [Act.put, List.setIfInBounds_toArray, List.set_cons_zero, List.set_cons_succ])
              refine branchH [16] (by kernel_rfl) (by kernel_rfl) (AllStep.cons ?_ AllStep.nil)
              refine stepH_do (i := 16) rfl (by rfl) ?_
              refine wp_store_st H 30 _ _ rfl rfl rfl (by kernel_rfl) (by rfl) (by kernel_rfl) ?_
              clear H
              intro wx H
              replace HS := HS.of H
              refine ⟨HS, ?_⟩
              (try simp only [Act.put])
              refine branchH [17] (by kernel_rfl) (by kernel_rfl) (AllStep.cons ?_ AllStep.nil)
              refine stepH_do (i := 17) rfl (by rfl) ?_
              refine wp_store_st H 47 _ _ rfl rfl rfl (by kernel_rfl) (by rfl) (by kernel_rfl) ?_
              clear H
              intro wx H
              replace HS := HS.of H
              refine ⟨HS, ?_⟩
              (try simp only [Act.put])
              refine takeAssign (i := 18) rfl rfl _ (by rfl) (by kernel_rfl) (by kernel_rfl) (by kernel_rfl) (fun _ _ _ _ h => h) (by rfl) HS ?_
              (try simp only [Act.put, List.setIfInBounds_toArray, List.set_cons_zero, List.set_cons_succ])
              refine takeAssign (i := 19) rfl rfl _ (by rfl) (by kernel_rfl) (by kernel_rfl) (by kernel_rfl) (fun _ _ _ _ h => h) (by rfl) HS ?_
              (try simp only [Act.put, List.setIfInBounds_toArray, List.set_cons_zero, List.set_cons_succ])
              refine doneH (by kernel_rfl) ?_
              go_wp2_with fail
              go_meet
              exact ⟨_, _, G1, y1, G2, y2, rfl, rfl, rfl, rfl, v1, v2, H.subm _⟩
            · refine stepH_do (i := 14) rfl (by rfl) ?_
              refine wp_alloc_st H 30 rfl _ q_zero ?_
              clear H
              intro gq9 wx H
              replace HS := HS.of H
              refine ⟨HS, ?_⟩
              (try simp only [Act.put, List.setIfInBounds_toArray, List.set_cons_zero, List.set_cons_succ])
              refine branchH [8] (by kernel_rfl) (by kernel_rfl) (AllStep.cons ?_ AllStep.nil)
              refine stepH_do (i := 8) rfl (by rfl) ?_
              refine wp_call_st rfl Try.func19 (by kernel_rfl) (by kernel_rfl) _ ?_ ((CD.out _ _ H inferInstance inferInstance).mono ?_)
              · rfl
              rintro ed wy ⟨G1, y1, G2, y2, rfl, v1, v2, H⟩
              replace HS := HS.of H
              refine ⟨_, rfl, HS, ?_⟩
              (try simp only [Act.put, List.setIfInBounds_toArray, List.set_cons_zero, List.set_cons_succ])
              refine takeMove (i := 9) rfl rfl _ (by rfl) (by kernel_rfl) (by kernel_rfl) (by kernel_rfl) (fun _ _ _ _ h => h) (by rfl) HS ?_
              (try simp only [Act.put, List.setIfInBounds_toArray, List.set_cons_zero, List.set_cons_succ])
              refine takeExtract (i := 10) rfl rfl _ _ (by rfl) (by rfl) (by kernel_rfl) (by kernel_rfl) (by kernel_rfl) (fun _ _ _ _ h => h) (by rfl) HS ?_
              (try simp only [Act.put, List.setIfInBounds_toArray, List.set_cons_zero, List.set_cons_succ])
              refine takeExtract (i := 11) rfl rfl _ _ (by rfl) (by rfl) (by kernel_rfl) (by kernel_rfl) (by kernel_rfl) (fun _ _ _ _ h => h) (by rfl) HS ?_
              (try simp only [Act.put, List.setIfInBounds_toArray, List.set_cons_zero, List.set_cons_succ])
              refine takeExtract (i := 12) rfl rfl _ _ (by rfl) (by rfl) (by kernel_rfl) (by kernel_rfl) (by kernel_rfl) (fun _ _ _ _ h => h) (by rfl) HS ?_
              (try simp only [Act.put, List.setIfInBounds_toArray, List.set_cons_zero, List.set_cons_succ])
              refine takeExtract (i := 13) rfl rfl _ _ (by rfl) (by rfl) (by kernel_rfl) (by kernel_rfl) (by kernel_rfl) (fun _ _ _ _ h => h) (by rfl) HS ?_
              (try simp only [Act.put, List.setIfInBounds_toArray, List.set_cons_zero, List.set_cons_succ])
              refine branchH [16] (by kernel_rfl) (by kernel_rfl) (AllStep.cons ?_ AllStep.nil)
              refine stepH_do (i := 16) rfl (by rfl) ?_
              refine wp_store_st H 30 _ _ rfl rfl rfl (by kernel_rfl) (by rfl) (by kernel_rfl) ?_
              clear H
              intro wx H
              replace HS := HS.of H
              refine ⟨HS, ?_⟩
              (try simp only [Act.put])
              refine branchH [17] (by kernel_rfl) (by kernel_rfl) (AllStep.cons ?_ AllStep.nil)
              refine stepH_do (i := 17) rfl (by rfl) ?_
              refine wp_store_st H 47 _ _ rfl rfl rfl (by kernel_rfl) (by rfl) (by kernel_rfl) ?_
              clear H
              intro wx H
              replace HS := HS.of H
              refine ⟨HS, ?_⟩
              (try simp only [Act.put])
              refine takeAssign (i := 18) rfl rfl _ (by rfl) (by kernel_rfl) (by kernel_rfl) (by kernel_rfl) (fun _ _ _ _ h => h) (by rfl) HS ?_
              (try simp only [Act.put, List.setIfInBounds_toArray, List.set_cons_zero, List.set_cons_succ])
              refine takeAssign (i := 19) rfl rfl _ (by rfl) (by kernel_rfl) (by kernel_rfl) (by kernel_rfl) (fun _ _ _ _ h => h) (by rfl) HS ?_
              (try simp only [Act.put, List.setIfInBounds_toArray, List.set_cons_zero, List.set_cons_succ])
              refine doneH (by kernel_rfl) ?_
              go_wp2_with fail
              go_meet
              exact ⟨_, _, G1, y1, G2, y2, rfl, rfl, rfl, rfl, v1, v2, H.subm _⟩
        · refine stepH_do (i := 14) rfl (by rfl) ?_
          refine wp_alloc_st H 30 rfl _ q_zero ?_
          clear H
          intro gq9 wx H
          replace HS := HS.of H
          refine ⟨HS, ?_⟩
          (try simp only [Act.put, List.setIfInBounds_toArray, List.set_cons_zero, List.set_cons_succ])
          refine branchH [6, 15] (by kernel_rfl) (by kernel_rfl) (AllStep.cons ?_ (AllStep.cons ?_ AllStep.nil))
          · refine stepH_do (i := 6) rfl (by rfl) ?_
            refine wp_call_st rfl Try.func17 (by kernel_rfl) (by kernel_rfl) _ ?_ ((PB.out _).mono ?_)
            · rfl
            rintro ed wy ⟨rfl, rfl⟩
            replace HS := HS.of H
            refine ⟨_, rfl, HS, ?_⟩
            (try simp only [Act.put, List.setIfInBounds_toArray, List.set_cons_zero, List.set_cons_succ])
            refine takeV (i := 7) (v := ?_) rfl (by kernel_rfl) (by kernel_rfl) (by kernel_rfl) (fun _ _ _ h => h) (by rfl) ?_ HS ?_
            rotate_left
            · (intro W hW; go_simp; try with_reducible rfl)
            (try simp only [Act.put, List.setIfInBounds_toArray, List.set_cons_zero, List.set_cons_succ])
            refine branchH [8, 15] (by kernel_rfl) (by kernel_rfl) (AllStep.cons ?_ (AllStep.cons ?_ AllStep.nil))
            · refine stepH_do (i := 8) rfl (by rfl) ?_
              refine wp_call_st rfl Try.func19 (by kernel_rfl) (by kernel_rfl) _ ?_ ((CD.out _ _ H inferInstance inferInstance).mono ?_)
              · rfl
              rintro ed wy ⟨G1, y1, G2, y2, rfl, v1, v2, H⟩
              replace HS := HS.of H
              refine ⟨_, rfl, HS, ?_⟩
              (try simp only [Act.put, List.setIfInBounds_toArray, List.set_cons_zero, List.set_cons_succ])
              refine takeMove (i := 9) rfl rfl _ (by rfl) (by kernel_rfl) (by kernel_rfl) (by kernel_rfl) (fun _ _ _ _ h => h) (by rfl) HS ?_
              (try simp only [Act.put, List.setIfInBounds_toArray, List.set_cons_zero, List.set_cons_succ])
              refine takeExtract (i := 10) rfl rfl _ _ (by rfl) (by rfl) (by kernel_rfl) (by kernel_rfl) (by kernel_rfl) (fun _ _ _ _ h => h) (by rfl) HS ?_
              (try simp only [Act.put, List.setIfInBounds_toArray, List.set_cons_zero, List.set_cons_succ])
              refine takeExtract (i := 11) rfl rfl _ _ (by rfl) (by rfl) (by kernel_rfl) (by kernel_rfl) (by kernel_rfl) (fun _ _ _ _ h => h) (by rfl) HS ?_
              (try simp only [Act.put, List.setIfInBounds_toArray, List.set_cons_zero, List.set_cons_succ])
              refine takeExtract (i := 12) rfl rfl _ _ (by rfl) (by rfl) (by kernel_rfl) (by kernel_rfl) (by kernel_rfl) (fun _ _ _ _ h => h) (by rfl) HS ?_
              (try simp only [Act.put, List.setIfInBounds_toArray, List.set_cons_zero, List.set_cons_succ])
              refine takeExtract (i := 13) rfl rfl _ _ (by rfl) (by rfl) (by kernel_rfl) (by kernel_rfl) (by kernel_rfl) (fun _ _ _ _ h => h) (by rfl) HS ?_
              (try simp only [Act.put, List.setIfInBounds_toArray, List.set_cons_zero, List.set_cons_succ])
              refine branchH [15] (by kernel_rfl) (by kernel_rfl) (AllStep.cons ?_ AllStep.nil)
              refine stepH_do (i := 15) rfl (by rfl) ?_
              refine wp_alloc_st H 47 rfl _ ans_zero ?_
              clear H
              intro ga9 wx H
              replace HS := HS.of H
              refine ⟨HS, ?_⟩
              (try simp only [Act.put, List.setIfInBounds_toArray, List.set_cons_zero, List.set_cons_succ])
              refine branchH [16] (by kernel_rfl) (by kernel_rfl) (AllStep.cons ?_ AllStep.nil)
              refine stepH_do (i := 16) rfl (by rfl) ?_
              refine wp_store_st H 30 _ _ rfl rfl rfl (by kernel_rfl) (by rfl) (by kernel_rfl) ?_
              clear H
              intro wx H
              replace HS := HS.of H
              refine ⟨HS, ?_⟩
              (try simp only [Act.put])
              refine branchH [17] (by kernel_rfl) (by kernel_rfl) (AllStep.cons ?_ AllStep.nil)
              refine stepH_do (i := 17) rfl (by rfl) ?_
              refine wp_store_st H 47 _ _ rfl rfl rfl (by kernel_rfl) (by rfl) (by kernel_rfl) ?_
              clear H
              intro wx H
              replace HS := HS.of H
              refine ⟨HS, ?_⟩
              (try simp only [Act.put])
              refine takeAssign (i := 18) rfl rfl _ (by rfl) (by kernel_rfl) (by kernel_rfl) (by kernel_rfl) (fun _ _ _ _ h => h) (by rfl) HS ?_
              (try simp only [Act.put, List.setIfInBounds_toArray, List.set_cons_zero, List.set_cons_succ])
              refine takeAssign (i := 19) rfl rfl _ (by rfl) (by kernel_rfl) (by kernel_rfl) (by kernel_rfl) (fun _ _ _ _ h => h) (by rfl) HS ?_
              (try simp only [Act.put, List.setIfInBounds_toArray, List.set_cons_zero, List.set_cons_succ])
              refine doneH (by kernel_rfl) ?_
              go_wp2_with fail
              go_meet
              exact ⟨_, _, G1, y1, G2, y2, rfl, rfl, rfl, rfl, v1, v2, H.subm _⟩
            · refine stepH_do (i := 15) rfl (by rfl) ?_
              refine wp_alloc_st H 47 rfl _ ans_zero ?_
              clear H
              intro ga9 wx H
              replace HS := HS.of H
              refine ⟨HS, ?_⟩
              (try simp only [Act.put, List.setIfInBounds_toArray, List.set_cons_zero, List.set_cons_succ])
              refine branchH [8] (by kernel_rfl) (by kernel_rfl) (AllStep.cons ?_ AllStep.nil)
              refine stepH_do (i := 8) rfl (by rfl) ?_
              refine wp_call_st rfl Try.func19 (by kernel_rfl) (by kernel_rfl) _ ?_ ((CD.out _ _ H inferInstance inferInstance).mono ?_)
              · rfl
              rintro ed wy ⟨G1, y1, G2, y2, rfl, v1, v2, H⟩
              replace HS := HS.of H
              refine ⟨_, rfl, HS, ?_⟩
              (try simp only [Act.put, List.setIfInBounds_toArray, List.set_cons_zero, List.set_cons_succ])
              refine takeMove (i := 9) rfl rfl _ (by rfl) (by kernel_rfl) (by kernel_rfl) (by kernel_rfl) (fun _ _ _ _ h => h) (by rfl) HS ?_
              (try simp only [Act.put, List.setIfInBounds_toArray, List.set_cons_zero, List.set_cons_succ])
              refine takeExtract (i := 10) rfl rfl _ _ (by rfl) (by rfl) (by kernel_rfl) (by kernel_rfl) (by kernel_rfl) (fun _ _ _ _ h => h) (by rfl) HS ?_
              (try simp only [Act.put, List.setIfInBounds_toArray, List.set_cons_zero, List.set_cons_succ])
              refine takeExtract (i := 11) rfl rfl _ _ (by rfl) (by rfl) (by kernel_rfl) (by kernel_rfl) (by kernel_rfl) (fun _ _ _ _ h => h) (by rfl) HS ?_
              (try simp only [Act.put, List.setIfInBounds_toArray, List.set_cons_zero, List.set_cons_succ])
              refine takeExtract (i := 12) rfl rfl _ _ (by rfl) (by rfl) (by kernel_rfl) (by kernel_rfl) (by kernel_rfl) (fun _ _ _ _ h => h) (by rfl) HS ?_
              (try simp only [Act.put, List.setIfInBounds_toArray, List.set_cons_zero, List.set_cons_succ])
              refine takeExtract (i := 13) rfl rfl _ _ (by rfl) (by rfl) (by kernel_rfl) (by kernel_rfl) (by kernel_rfl) (fun _ _ _ _ h => h) (by rfl) HS ?_
              (try simp only [Act.put, List.setIfInBounds_toArray, List.set_cons_zero, List.set_cons_succ])
              refine branchH [16] (by kernel_rfl) (by kernel_rfl) (AllStep.cons ?_ AllStep.nil)
              refine stepH_do (i := 16) rfl (by rfl) ?_
              refine wp_store_st H 30 _ _ rfl rfl rfl (by kernel_rfl) (by rfl) (by kernel_rfl) ?_
              clear H
              intro wx H
              replace HS := HS.of H
              refine ⟨HS, ?_⟩
              (try simp only [Act.put])
              refine branchH [17] (by kernel_rfl) (by kernel_rfl) (AllStep.cons ?_ AllStep.nil)
              refine stepH_do (i := 17) rfl (by rfl) ?_
              refine wp_store_st H 47 _ _ rfl rfl rfl (by kernel_rfl) (by rfl) (by kernel_rfl) ?_
              clear H
              intro wx H
              replace HS := HS.of H
              refine ⟨HS, ?_⟩
              (try simp only [Act.put])
              refine takeAssign (i := 18) rfl rfl _ (by rfl) (by kernel_rfl) (by kernel_rfl) (by kernel_rfl) (fun _ _ _ _ h => h) (by rfl) HS ?_
              (try simp only [Act.put, List.setIfInBounds_toArray, List.set_cons_zero, List.set_cons_succ])
              refine takeAssign (i := 19) rfl rfl _ (by rfl) (by kernel_rfl) (by kernel_rfl) (by kernel_rfl) (fun _ _ _ _ h => h) (by rfl) HS ?_
              (try simp only [Act.put, List.setIfInBounds_toArray, List.set_cons_zero, List.set_cons_succ])
              refine doneH (by kernel_rfl) ?_
              go_wp2_with fail
              go_meet
              exact ⟨_, _, G1, y1, G2, y2, rfl, rfl, rfl, rfl, v1, v2, H.subm _⟩
          · refine stepH_do (i := 15) rfl (by rfl) ?_
            refine wp_alloc_st H 47 rfl _ ans_zero ?_
            clear H
            intro ga9 wx H
            replace HS := HS.of H
            refine ⟨HS, ?_⟩
            (try simp only [Act.put, List.setIfInBounds_toArray, List.set_cons_zero, List.set_cons_succ])
            refine branchH [6] (by kernel_rfl) (by kernel_rfl) (AllStep.cons ?_ AllStep.nil)
            refine stepH_do (i := 6) rfl (by rfl) ?_
            refine wp_call_st rfl Try.func17 (by kernel_rfl) (by kernel_rfl) _ ?_ ((PB.out _).mono ?_)
            · rfl
            rintro ed wy ⟨rfl, rfl⟩
            replace HS := HS.of H
            refine ⟨_, rfl, HS, ?_⟩
            (try simp only [Act.put, List.setIfInBounds_toArray, List.set_cons_zero, List.set_cons_succ])
            refine takeV (i := 7) (v := ?_) rfl (by kernel_rfl) (by kernel_rfl) (by kernel_rfl) (fun _ _ _ h => h) (by rfl) ?_ HS ?_
            rotate_left
            · (intro W hW; go_simp; try with_reducible rfl)
            (try simp only [Act.put, List.setIfInBounds_toArray, List.set_cons_zero, List.set_cons_succ])
            refine branchH [8] (by kernel_rfl) (by kernel_rfl) (AllStep.cons ?_ AllStep.nil)
            refine stepH_do (i := 8) rfl (by rfl) ?_
            refine wp_call_st rfl Try.func19 (by kernel_rfl) (by kernel_rfl) _ ?_ ((CD.out _ _ H inferInstance inferInstance).mono ?_)
            · rfl
            rintro ed wy ⟨G1, y1, G2, y2, rfl, v1, v2, H⟩
            replace HS := HS.of H
            refine ⟨_, rfl, HS, ?_⟩
            (try simp only [Act.put, List.setIfInBounds_toArray, List.set_cons_zero, List.set_cons_succ])
            refine takeMove (i := 9) rfl rfl _ (by rfl) (by kernel_rfl) (by kernel_rfl) (by kernel_rfl) (fun _ _ _ _ h => h) (by rfl) HS ?_
            (try simp only [Act.put, List.setIfInBounds_toArray, List.set_cons_zero, List.set_cons_succ])
            refine takeExtract (i := 10) rfl rfl _ _ (by rfl) (by rfl) (by kernel_rfl) (by kernel_rfl) (by kernel_rfl) (fun _ _ _ _ h => h) (by rfl) HS ?_
            (try simp only [Act.put, List.setIfInBounds_toArray, List.set_cons_zero, List.set_cons_succ])
            refine takeExtract (i := 11) rfl rfl _ _ (by rfl) (by rfl) (by kernel_rfl) (by kernel_rfl) (by kernel_rfl) (fun _ _ _ _ h => h) (by rfl) HS ?_
            (try simp only [Act.put, List.setIfInBounds_toArray, List.set_cons_zero, List.set_cons_succ])
            refine takeExtract (i := 12) rfl rfl _ _ (by rfl) (by rfl) (by kernel_rfl) (by kernel_rfl) (by kernel_rfl) (fun _ _ _ _ h => h) (by rfl) HS ?_
            (try simp only [Act.put, List.setIfInBounds_toArray, List.set_cons_zero, List.set_cons_succ])
            refine takeExtract (i := 13) rfl rfl _ _ (by rfl) (by rfl) (by kernel_rfl) (by kernel_rfl) (by kernel_rfl) (fun _ _ _ _ h => h) (by rfl) HS ?_
            (try simp only [Act.put, List.setIfInBounds_toArray, List.set_cons_zero, List.set_cons_succ])
            refine branchH [16] (by kernel_rfl) (by kernel_rfl) (AllStep.cons ?_ AllStep.nil)
            refine stepH_do (i := 16) rfl (by rfl) ?_
            refine wp_store_st H 30 _ _ rfl rfl rfl (by kernel_rfl) (by rfl) (by kernel_rfl) ?_
            clear H
            intro wx H
            replace HS := HS.of H
            refine ⟨HS, ?_⟩
            (try simp only [Act.put])
            refine branchH [17] (by kernel_rfl) (by kernel_rfl) (AllStep.cons ?_ AllStep.nil)
            refine stepH_do (i := 17) rfl (by rfl) ?_
            refine wp_store_st H 47 _ _ rfl rfl rfl (by kernel_rfl) (by rfl) (by kernel_rfl) ?_
            clear H
            intro wx H
            replace HS := HS.of H
            refine ⟨HS, ?_⟩
            (try simp only [Act.put])
            refine takeAssign (i := 18) rfl rfl _ (by rfl) (by kernel_rfl) (by kernel_rfl) (by kernel_rfl) (fun _ _ _ _ h => h) (by rfl) HS ?_
            (try simp only [Act.put, List.setIfInBounds_toArray, List.set_cons_zero, List.set_cons_succ])
            refine takeAssign (i := 19) rfl rfl _ (by rfl) (by kernel_rfl) (by kernel_rfl) (by kernel_rfl) (fun _ _ _ _ h => h) (by rfl) HS ?_
            (try simp only [Act.put, List.setIfInBounds_toArray, List.set_cons_zero, List.set_cons_succ])
            refine doneH (by kernel_rfl) ?_
            go_wp2_with fail
            go_meet
            exact ⟨_, _, G1, y1, G2, y2, rfl, rfl, rfl, rfl, v1, v2, H.subm _⟩
        · refine stepH_do (i := 15) rfl (by rfl) ?_
          refine wp_alloc_st H 47 rfl _ ans_zero ?_
          clear H
          intro ga9 wx H
          replace HS := HS.of H
          refine ⟨HS, ?_⟩
          (try simp only [Act.put, List.setIfInBounds_toArray, List.set_cons_zero, List.set_cons_succ])
          refine branchH [6, 14] (by kernel_rfl) (by kernel_rfl) (AllStep.cons ?_ (AllStep.cons ?_ AllStep.nil))
          · refine stepH_do (i := 6) rfl (by rfl) ?_
            refine wp_call_st rfl Try.func17 (by kernel_rfl) (by kernel_rfl) _ ?_ ((PB.out _).mono ?_)
            · rfl
            rintro ed wy ⟨rfl, rfl⟩
            replace HS := HS.of H
            refine ⟨_, rfl, HS, ?_⟩
            (try simp only [Act.put, List.setIfInBounds_toArray, List.set_cons_zero, List.set_cons_succ])
            refine takeV (i := 7) (v := ?_) rfl (by kernel_rfl) (by kernel_rfl) (by kernel_rfl) (fun _ _ _ h => h) (by rfl) ?_ HS ?_
            rotate_left
            · (intro W hW; go_simp; try with_reducible rfl)
            (try simp only [Act.put, List.setIfInBounds_toArray, List.set_cons_zero, List.set_cons_succ])
            refine branchH [8, 14] (by kernel_rfl) (by kernel_rfl) (AllStep.cons ?_ (AllStep.cons ?_ AllStep.nil))
            · refine stepH_do (i := 8) rfl (by rfl) ?_
              refine wp_call_st rfl Try.func19 (by kernel_rfl) (by kernel_rfl) _ ?_ ((CD.out _ _ H inferInstance inferInstance).mono ?_)
              · rfl
              rintro ed wy ⟨G1, y1, G2, y2, rfl, v1, v2, H⟩
              replace HS := HS.of H
              refine ⟨_, rfl, HS, ?_⟩
              (try simp only [Act.put, List.setIfInBounds_toArray, List.set_cons_zero, List.set_cons_succ])
              refine takeMove (i := 9) rfl rfl _ (by rfl) (by kernel_rfl) (by kernel_rfl) (by kernel_rfl) (fun _ _ _ _ h => h) (by rfl) HS ?_
              (try simp only [Act.put, List.setIfInBounds_toArray, List.set_cons_zero, List.set_cons_succ])
              refine takeExtract (i := 10) rfl rfl _ _ (by rfl) (by rfl) (by kernel_rfl) (by kernel_rfl) (by kernel_rfl) (fun _ _ _ _ h => h) (by rfl) HS ?_
              (try simp only [Act.put, List.setIfInBounds_toArray, List.set_cons_zero, List.set_cons_succ])
              refine takeExtract (i := 11) rfl rfl _ _ (by rfl) (by rfl) (by kernel_rfl) (by kernel_rfl) (by kernel_rfl) (fun _ _ _ _ h => h) (by rfl) HS ?_
              (try simp only [Act.put, List.setIfInBounds_toArray, List.set_cons_zero, List.set_cons_succ])
              refine takeExtract (i := 12) rfl rfl _ _ (by rfl) (by rfl) (by kernel_rfl) (by kernel_rfl) (by kernel_rfl) (fun _ _ _ _ h => h) (by rfl) HS ?_
              (try simp only [Act.put, List.setIfInBounds_toArray, List.set_cons_zero, List.set_cons_succ])
              refine takeExtract (i := 13) rfl rfl _ _ (by rfl) (by rfl) (by kernel_rfl) (by kernel_rfl) (by kernel_rfl) (fun _ _ _ _ h => h) (by rfl) HS ?_
              (try simp only [Act.put, List.setIfInBounds_toArray, List.set_cons_zero, List.set_cons_succ])
              refine branchH [14] (by kernel_rfl) (by kernel_rfl) (AllStep.cons ?_ AllStep.nil)
              refine stepH_do (i := 14) rfl (by rfl) ?_
              refine wp_alloc_st H 30 rfl _ q_zero ?_
              clear H
              intro gq9 wx H
              replace HS := HS.of H
              refine ⟨HS, ?_⟩
              (try simp only [Act.put, List.setIfInBounds_toArray, List.set_cons_zero, List.set_cons_succ])
              refine branchH [16] (by kernel_rfl) (by kernel_rfl) (AllStep.cons ?_ AllStep.nil)
              refine stepH_do (i := 16) rfl (by rfl) ?_
              refine wp_store_st H 30 _ _ rfl rfl rfl (by kernel_rfl) (by rfl) (by kernel_rfl) ?_
              clear H
              intro wx H
              replace HS := HS.of H
              refine ⟨HS, ?_⟩
              (try simp only [Act.put])
              refine branchH [17] (by kernel_rfl) (by kernel_rfl) (AllStep.cons ?_ AllStep.nil)
              refine stepH_do (i := 17) rfl (by rfl) ?_
              refine wp_store_st H 47 _ _ rfl rfl rfl (by kernel_rfl) (by rfl) (by kernel_rfl) ?_
              clear H
              intro wx H
              replace HS := HS.of H
              refine ⟨HS, ?_⟩
              (try simp only [Act.put])
              refine takeAssign (i := 18) rfl rfl _ (by rfl) (by kernel_rfl) (by kernel_rfl) (by kernel_rfl) (fun _ _ _ _ h => h) (by rfl) HS ?_
              (try simp only [Act.put, List.setIfInBounds_toArray, List.set_cons_zero, List.set_cons_succ])
              refine takeAssign (i := 19) rfl rfl _ (by rfl) (by kernel_rfl) (by kernel_rfl) (by kernel_rfl) (fun _ _ _ _ h => h) (by rfl) HS ?_
              (try simp only [Act.put, List.setIfInBounds_toArray, List.set_cons_zero, List.set_cons_succ])
              refine doneH (by kernel_rfl) ?_
              go_wp2_with fail
              go_meet
              exact ⟨_, _, G1, y1, G2, y2, rfl, rfl, rfl, rfl, v1, v2, H.subm _⟩
            · refine stepH_do (i := 14) rfl (by rfl) ?_
              refine wp_alloc_st H 30 rfl _ q_zero ?_
              clear H
              intro gq9 wx H
              replace HS := HS.of H
              refine ⟨HS, ?_⟩
              (try simp only [Act.put, List.setIfInBounds_toArray, List.set_cons_zero, List.set_cons_succ])
              refine branchH [8] (by kernel_rfl) (by kernel_rfl) (AllStep.cons ?_ AllStep.nil)
              refine stepH_do (i := 8) rfl (by rfl) ?_
              refine wp_call_st rfl Try.func19 (by kernel_rfl) (by kernel_rfl) _ ?_ ((CD.out _ _ H inferInstance inferInstance).mono ?_)
              · rfl
              rintro ed wy ⟨G1, y1, G2, y2, rfl, v1, v2, H⟩
              replace HS := HS.of H
              refine ⟨_, rfl, HS, ?_⟩
              (try simp only [Act.put, List.setIfInBounds_toArray, List.set_cons_zero, List.set_cons_succ])
              refine takeMove (i := 9) rfl rfl _ (by rfl) (by kernel_rfl) (by kernel_rfl) (by kernel_rfl) (fun _ _ _ _ h => h) (by rfl) HS ?_
              (try simp only [Act.put, List.setIfInBounds_toArray, List.set_cons_zero, List.set_cons_succ])
              refine takeExtract (i := 10) rfl rfl _ _ (by rfl) (by rfl) (by kernel_rfl) (by kernel_rfl) (by kernel_rfl) (fun _ _ _ _ h => h) (by rfl) HS ?_
              (try simp only [Act.put, List.setIfInBounds_toArray, List.set_cons_zero, List.set_cons_succ])
              refine takeExtract (i := 11) rfl rfl _ _ (by rfl) (by rfl) (by kernel_rfl) (by kernel_rfl) (by kernel_rfl) (fun _ _ _ _ h => h) (by rfl) HS ?_
              (try simp only [Act.put, List.setIfInBounds_toArray, List.set_cons_zero, List.set_cons_succ])
              refine takeExtract (i := 12) rfl rfl _ _ (by rfl) (by rfl) (by kernel_rfl) (by kernel_rfl) (by kernel_rfl) (fun _ _ _ _ h => h) (by rfl) HS ?_
              (try simp only [Act.put, List.setIfInBounds_toArray, List.set_cons_zero, List.set_cons_succ])
              refine takeExtract (i := 13) rfl rfl _ _ (by rfl) (by rfl) (by kernel_rfl) (by kernel_rfl) (by kernel_rfl) (fun _ _ _ _ h => h) (by rfl) HS ?_
              (try simp only [Act.put, List.setIfInBounds_toArray, List.set_cons_zero, List.set_cons_succ])
              refine branchH [16] (by kernel_rfl) (by kernel_rfl) (AllStep.cons ?_ AllStep.nil)
              refine stepH_do (i := 16) rfl (by rfl) ?_
              refine wp_store_st H 30 _ _ rfl rfl rfl (by kernel_rfl) (by rfl) (by kernel_rfl) ?_
              clear H
              intro wx H
              replace HS := HS.of H
              refine ⟨HS, ?_⟩
              (try simp only [Act.put])
              refine branchH [17] (by kernel_rfl) (by kernel_rfl) (AllStep.cons ?_ AllStep.nil)
              refine stepH_do (i := 17) rfl (by rfl) ?_
              refine wp_store_st H 47 _ _ rfl rfl rfl (by kernel_rfl) (by rfl) (by kernel_rfl) ?_
              clear H
              intro wx H
              replace HS := HS.of H
              refine ⟨HS, ?_⟩
              (try simp only [Act.put])
              refine takeAssign (i := 18) rfl rfl _ (by rfl) (by kernel_rfl) (by kernel_rfl) (by kernel_rfl) (fun _ _ _ _ h => h) (by rfl) HS ?_
              (try simp only [Act.put, List.setIfInBounds_toArray, List.set_cons_zero, List.set_cons_succ])
              refine takeAssign (i := 19) rfl rfl _ (by rfl) (by kernel_rfl) (by kernel_rfl) (by kernel_rfl) (fun _ _ _ _ h => h) (by rfl) HS ?_
              (try simp only [Act.put, List.setIfInBounds_toArray, List.set_cons_zero, List.set_cons_succ])
              refine doneH (by kernel_rfl) ?_
              go_wp2_with fail
              go_meet
              exact ⟨_, _, G1, y1, G2, y2, rfl, rfl, rfl, rfl, v1, v2, H.subm _⟩
          · refine stepH_do (i := 14) rfl (by rfl) ?_
            refine wp_alloc_st H 30 rfl _ q_zero ?_
            clear H
            intro gq9 wx H
            replace HS := HS.of H
            refine ⟨HS, ?_⟩
            (try simp only [Act.put, List.setIfInBounds_toArray, List.set_cons_zero, List.set_cons_succ])
            refine branchH [6] (by kernel_rfl) (by kernel_rfl) (AllStep.cons ?_ AllStep.nil)
            refine stepH_do (i := 6) rfl (by rfl) ?_
            refine wp_call_st rfl Try.func17 (by kernel_rfl) (by kernel_rfl) _ ?_ ((PB.out _).mono ?_)
            · rfl
            rintro ed wy ⟨rfl, rfl⟩
            replace HS := HS.of H
            refine ⟨_, rfl, HS, ?_⟩
            (try simp only [Act.put, List.setIfInBounds_toArray, List.set_cons_zero, List.set_cons_succ])
            refine takeV (i := 7) (v := ?_) rfl (by kernel_rfl) (by kernel_rfl) (by kernel_rfl) (fun _ _ _ h => h) (by rfl) ?_ HS ?_
            rotate_left
            · (intro W hW; go_simp; try with_reducible rfl)
            (try simp only [Act.put, List.setIfInBounds_toArray, List.set_cons_zero, List.set_cons_succ])
            refine branchH [8] (by kernel_rfl) (by kernel_rfl) (AllStep.cons ?_ AllStep.nil)
            refine stepH_do (i := 8) rfl (by rfl) ?_
            refine wp_call_st rfl Try.func19 (by kernel_rfl) (by kernel_rfl) _ ?_ ((CD.out _ _ H inferInstance inferInstance).mono ?_)
            · rfl
            rintro ed wy ⟨G1, y1, G2, y2, rfl, v1, v2, H⟩
            replace HS := HS.of H
            refine ⟨_, rfl, HS, ?_⟩
            (try simp only [Act.put, List.setIfInBounds_toArray, List.set_cons_zero, List.set_cons_succ])
            refine takeMove (i := 9) rfl rfl _ (by rfl) (by kernel_rfl) (by kernel_rfl) (by kernel_rfl) (fun _ _ _ _ h => h) (by rfl) HS ?_
            (try simp only [Act.put, List.setIfInBounds_toArray, List.set_cons_zero, List.set_cons_succ])
            refine takeExtract (i := 10) rfl rfl _ _ (by rfl) (by rfl) (by kernel_rfl) (by kernel_rfl) (by kernel_rfl) (fun _ _ _ _ h => h) (by rfl) HS ?_
            (try simp only [Act.put, List.setIfInBounds_toArray, List.set_cons_zero, List.set_cons_succ])
            refine takeExtract (i := 11) rfl rfl _ _ (by rfl) (by rfl) (by kernel_rfl) (by kernel_rfl) (by kernel_rfl) (fun _ _ _ _ h => h) (by rfl) HS ?_
            (try simp only [Act.put, List.setIfInBounds_toArray, List.set_cons_zero, List.set_cons_succ])
            refine takeExtract (i := 12) rfl rfl _ _ (by rfl) (by rfl) (by kernel_rfl) (by kernel_rfl) (by kernel_rfl) (fun _ _ _ _ h => h) (by rfl) HS ?_
            (try simp only [Act.put, List.setIfInBounds_toArray, List.set_cons_zero, List.set_cons_succ])
            refine takeExtract (i := 13) rfl rfl _ _ (by rfl) (by rfl) (by kernel_rfl) (by kernel_rfl) (by kernel_rfl) (fun _ _ _ _ h => h) (by rfl) HS ?_
            (try simp only [Act.put, List.setIfInBounds_toArray, List.set_cons_zero, List.set_cons_succ])
            refine branchH [16] (by kernel_rfl) (by kernel_rfl) (AllStep.cons ?_ AllStep.nil)
            refine stepH_do (i := 16) rfl (by rfl) ?_
            refine wp_store_st H 30 _ _ rfl rfl rfl (by kernel_rfl) (by rfl) (by kernel_rfl) ?_
            clear H
            intro wx H
            replace HS := HS.of H
            refine ⟨HS, ?_⟩
            (try simp only [Act.put])
            refine branchH [17] (by kernel_rfl) (by kernel_rfl) (AllStep.cons ?_ AllStep.nil)
            refine stepH_do (i := 17) rfl (by rfl) ?_
            refine wp_store_st H 47 _ _ rfl rfl rfl (by kernel_rfl) (by rfl) (by kernel_rfl) ?_
            clear H
            intro wx H
            replace HS := HS.of H
            refine ⟨HS, ?_⟩
            (try simp only [Act.put])
            refine takeAssign (i := 18) rfl rfl _ (by rfl) (by kernel_rfl) (by kernel_rfl) (by kernel_rfl) (fun _ _ _ _ h => h) (by rfl) HS ?_
            (try simp only [Act.put, List.setIfInBounds_toArray, List.set_cons_zero, List.set_cons_succ])
            refine takeAssign (i := 19) rfl rfl _ (by rfl) (by kernel_rfl) (by kernel_rfl) (by kernel_rfl) (fun _ _ _ _ h => h) (by rfl) HS ?_
            (try simp only [Act.put, List.setIfInBounds_toArray, List.set_cons_zero, List.set_cons_succ])
            refine doneH (by kernel_rfl) ?_
            go_wp2_with fail
            go_meet
            exact ⟨_, _, G1, y1, G2, y2, rfl, rfl, rfl, rfl, v1, v2, H.subm _⟩
      case rest =>
        obtain ⟨g1, g2, G1, y1, G2, y2, rfl, rfl, rfl, rfl, v1, v2, H⟩ := hcut
        go_wp2_with (first
    | ((with_reducible refine here_load ?_); first | (refine wpList_load_st H rfl 30 _ rfl rfl row_Queue (by kernel_rfl) ?_) | (refine wpList_load_st H rfl 47 _ rfl rfl row_Answer (by kernel_rfl) ?_) | (refine wpList_load_st H rfl 45 _ rfl rfl row_Event (by kernel_rfl) ?_) | (refine wpList_load1_st H rfl 3 _ rfl rfl sc_int (by rfl) ?_) | (refine wpList_load1_stG H (by rfl) 3 _ rfl rfl sc_int (by rfl) ?_) | (refine wpList_load1_st H rfl 4 _ rfl rfl sc_bool (by rfl) ?_) | (refine wpList_load1_stG H (by rfl) 4 _ rfl rfl sc_bool (by rfl) ?_) | (refine wpList_load1_st H rfl 40 _ rfl rfl sc_Errno (by rfl) ?_) | (refine wpList_load1_stG H (by rfl) 40 _ rfl rfl sc_Errno (by rfl) ?_) | (refine wpList_load1_st H rfl 23 _ rfl rfl sc_Msgs (by rfl) ?_) | (refine wpList_load1_stG H (by rfl) 23 _ rfl rfl sc_Msgs (by rfl) ?_) | (refine wpList_load1_st H rfl 24 _ rfl rfl sc_Lss (by rfl) ?_) | (refine wpList_load1_stG H (by rfl) 24 _ rfl rfl sc_Lss (by rfl) ?_))
    | ((with_reducible refine here_store ?_); first | (refine wpList_store_st H rfl 30 _ _ rfl rfl rfl (by kernel_rfl) (by rfl) (by kernel_rfl) ?_; clear H; intro wx H) | (refine wpList_store_st H rfl 47 _ _ rfl rfl rfl (by kernel_rfl) (by rfl) (by kernel_rfl) ?_; clear H; intro wx H) | (refine wpList_store_st H rfl 45 _ _ rfl rfl rfl (by kernel_rfl) (by rfl) (by kernel_rfl) ?_; clear H; intro wx H) | (refine wpList_store1_st H rfl 3 _ _ rfl rfl _ rfl (by rfl) s1_int (by rfl) (by rfl) ?_; clear H; intro wx H) | (refine wpList_store1_st H rfl 4 _ _ rfl rfl _ rfl (by rfl) s1_bool (by rfl) (by rfl) ?_; clear H; intro wx H) | (refine wpList_store1_st H rfl 40 _ _ rfl rfl _ rfl (by rfl) s1_Errno (by rfl) (by rfl) ?_; clear H; intro wx H) | (refine wpList_store1_st H rfl 23 _ _ rfl rfl _ rfl (by rfl) s1_Msgs (by rfl) (by rfl) ?_; clear H; intro wx H) | (refine wpList_store1_st H rfl 24 _ _ rfl rfl _ rfl (by rfl) s1_Lss (by rfl) (by rfl) ?_; clear H; intro wx H))
    | ((with_reducible refine here_alloc ?_); first | (refine wpList_alloc_st H rfl 30 rfl _ q_zero ?_; clear H; intro gq2 wx H) | (refine wpList_alloc_st H rfl 47 rfl _ ans_zero ?_; clear H; intro ga2 wx H) | (refine wpList_alloc_st H rfl 45 rfl _ ev_zero ?_; clear H; intro ge2 wx H))
    | ((with_reducible refine here_box ?_); first | (refine wpList_box_st H rfl _ _ rfl _ rfl ?_; clear H; intro gb2 wx H)))
        go_roundw
        case rel => exact ⟨i + 1, q', by omega, by go_num, HF.out, G1, y1, G2, y2, v1, v2, H.subm _⟩
        case measure => simp [intOf]; omega
    · obtain rfl : i = N := by omega
      have hlt2 : ¬ (i : Int) < (i : Int) := by omega
      have hL := hf.less hN3
      go_upto_region 11 with (first
    | ((with_reducible refine here_load ?_); first | (refine wpList_load_st H rfl 30 _ rfl rfl row_Queue (by kernel_rfl) ?_) | (refine wpList_load_st H rfl 47 _ rfl rfl row_Answer (by kernel_rfl) ?_) | (refine wpList_load_st H rfl 45 _ rfl rfl row_Event (by kernel_rfl) ?_) | (refine wpList_load1_st H rfl 3 _ rfl rfl sc_int (by rfl) ?_) | (refine wpList_load1_stG H (by rfl) 3 _ rfl rfl sc_int (by rfl) ?_) | (refine wpList_load1_st H rfl 4 _ rfl rfl sc_bool (by rfl) ?_) | (refine wpList_load1_stG H (by rfl) 4 _ rfl rfl sc_bool (by rfl) ?_) | (refine wpList_load1_st H rfl 40 _ rfl rfl sc_Errno (by rfl) ?_) | (refine wpList_load1_stG H (by rfl) 40 _ rfl rfl sc_Errno (by rfl) ?_) | (refine wpList_load1_st H rfl 23 _ rfl rfl sc_Msgs (by rfl) ?_) | (refine wpList_load1_stG H (by rfl) 23 _ rfl rfl sc_Msgs (by rfl) ?_) | (refine wpList_load1_st H rfl 24 _ rfl rfl sc_Lss (by rfl) ?_) | (refine wpList_load1_stG H (by rfl) 24 _ rfl rfl sc_Lss (by rfl) ?_))
    | ((with_reducible refine here_store ?_); first | (refine wpList_store_st H rfl 30 _ _ rfl rfl rfl (by kernel_rfl) (by rfl) (by kernel_rfl) ?_; clear H; intro wx H) | (refine wpList_store_st H rfl 47 _ _ rfl rfl rfl (by kernel_rfl) (by rfl) (by kernel_rfl) ?_; clear H; intro wx H) | (refine wpList_store_st H rfl 45 _ _ rfl rfl rfl (by kernel_rfl) (by rfl) (by kernel_rfl) ?_; clear H; intro wx H) | (refine wpList_store1_st H rfl 3 _ _ rfl rfl _ rfl (by rfl) s1_int (by rfl) (by rfl) ?_; clear H; intro wx H) | (refine wpList_store1_st H rfl 4 _ _ rfl rfl _ rfl (by rfl) s1_bool (by rfl) (by rfl) ?_; clear H; intro wx H) | (refine wpList_store1_st H rfl 40 _ _ rfl rfl _ rfl (by rfl) s1_Errno (by rfl) (by rfl) ?_; clear H; intro wx H) | (refine wpList_store1_st H rfl 23 _ _ rfl rfl _ rfl (by rfl) s1_Msgs (by rfl) (by rfl) ?_; clear H; intro wx H) | (refine wpList_store1_st H rfl 24 _ _ rfl rfl _ rfl (by rfl) s1_Lss (by rfl) (by rfl) ?_; clear H; intro wx H))
    | ((with_reducible refine here_alloc ?_); first | (refine wpList_alloc_st H rfl 30 rfl _ q_zero ?_; clear H; intro gq2 wx H) | (refine wpList_alloc_st H rfl 47 rfl _ ans_zero ?_; clear H; intro ga2 wx H) | (refine wpList_alloc_st H rfl 45 rfl _ ev_zero ?_; clear H; intro ge2 wx H))
    | ((with_reducible refine here_box ?_); first | (refine wpList_box_st H rfl _ _ rfl _ rfl ?_; clear H; intro gb2 wx H)))
      clear hlt2 hf
      go_loopw [10] (fun s10 wr => ∃ (k : Nat) (q : QM), k ≤ i ∧ s10 = .int .i64 k ∧ Less zs i k q ∧ QAt w wr gq q) (fun s10 _ => i - (intOf s10).toNat)
      case atStart => exact ⟨0, q, by omega, rfl, hL, B1, d1, B2, d2, k1, k2, H⟩
      case round =>
        clear H hL k1 k2 hlt hi
        obtain ⟨k, q, hi, rfl, hf, B1, d1, B2, d2, k1, k2, H⟩ := hrel
        by_cases hlt : k < i
        · obtain ⟨q1, q2, g, hst, hinv1, hroom1, hck, hst2, hf'⟩ := hf.next hlt hN3
          have CD := Lib.hid (fun W I H h1 h2 => do_st (w0 := w) (w := W) (I := I) (h1 := h1) (h2 := h2) q ⟨2, 0, 0, 0, 0, 0⟩ (A1 := B1) (A2 := B2) (c1 := d1) (c2 := d2) H hf.inv (hf.room.less (by omega)) (by decide) k1 k2)
          rw [hst] at CD
          simp only [QA.val, ansV] at CD
          have CD2 := Lib.hid (fun W I A1 A2 c1 c2 H h1 h2 k1 k2 => do_st (w0 := w) (w := W) (I := I) (h1 := h1) (h2 := h2) q1 ⟨3, 0, 0, 0, q.ep, g⟩ (A1 := A1) (A2 := A2) (c1 := c1) (c2 := c2) H hinv1 (hroom1.less (by omega)) hck k1 k2)
          rw [hst2] at CD2
          simp only [QA.val, ansV] at CD2
          have hgz : (zs.map (Value.int .i64))[k]? = some (.int .i64 (zs.getD k 0)) := by
            rw [List.getElem?_map, List.getElem?_eq_getElem (show k < zs.length by omega)]
            simp [List.getD, List.getElem?_eq_getElem (show k < zs.length by omega)]
          obtain ⟨z1, z2⟩ := is64_of_wf (hwf.out (zs.getD k 0) (by rw [List.getD, List.getElem?_eq_getElem (show k < zs.length by omega)]; exact List.getElem_mem _))
          have PB := Lib.hid (fun W => (picked_any (zs.getD k 0) 1000 W z1 z2 (by omega) (by omega)).mono (fun e w' h => (⟨h.1, h.2.symm⟩ : e = .returned (.int .i64 (pick (zs.getD k 0) 1000)) ∧ w' = W)))
          rw [show pick (zs.getD k 0) 1000 = bodyAt zs k from rfl] at PB
          obtain ⟨b, off, hA2, hb, hc⟩ := HR.out.plain (by omega) (by omega)
          subst hA2
          have hc0 := hc k _ hgz
          have HC0 := Lib.hid (fun W (hW : Below w.heap.size w W) => (hW.cell (p := ⟨b, off + k, none⟩) hb).trans hc0)
          have hI1 : (k : Int) < (n : Int) := by omega
          have hI0 : (0 : Int) ≤ (k : Int) := by omega
          have hI2 : (n : Int) ≤ (c : Int) := by omega
          have hIN : (k : Int) < (i : Int) := by omega
          have w1 : IntKind.i64.wrap ((k : Int) + 1) = (k : Int) + 1 := IntWalk.i64_in _ (by omega)
          have HF := Lib.hid hf'
          have HLT := Lib.hid hlt
          have W1 := Lib.hid w1
          clear hc hc0 hgz hst hst2 hf hf' hb hinv1 hroom1 hck w1
          generalize zs.getD k 0 = zk at *
          go_upto_region 13 with (first
    | ((with_reducible refine here_load ?_); first | (refine wpList_load_st H rfl 30 _ rfl rfl row_Queue (by kernel_rfl) ?_) | (refine wpList_load_st H rfl 47 _ rfl rfl row_Answer (by kernel_rfl) ?_) | (refine wpList_load_st H rfl 45 _ rfl rfl row_Event (by kernel_rfl) ?_) | (refine wpList_load1_st H rfl 3 _ rfl rfl sc_int (by rfl) ?_) | (refine wpList_load1_stG H (by rfl) 3 _ rfl rfl sc_int (by rfl) ?_) | (refine wpList_load1_st H rfl 4 _ rfl rfl sc_bool (by rfl) ?_) | (refine wpList_load1_stG H (by rfl) 4 _ rfl rfl sc_bool (by rfl) ?_) | (refine wpList_load1_st H rfl 40 _ rfl rfl sc_Errno (by rfl) ?_) | (refine wpList_load1_stG H (by rfl) 40 _ rfl rfl sc_Errno (by rfl) ?_) | (refine wpList_load1_st H rfl 23 _ rfl rfl sc_Msgs (by rfl) ?_) | (refine wpList_load1_stG H (by rfl) 23 _ rfl rfl sc_Msgs (by rfl) ?_) | (refine wpList_load1_st H rfl 24 _ rfl rfl sc_Lss (by rfl) ?_) | (refine wpList_load1_stG H (by rfl) 24 _ rfl rfl sc_Lss (by rfl) ?_))
    | ((with_reducible refine here_store ?_); first | (refine wpList_store_st H rfl 30 _ _ rfl rfl rfl (by kernel_rfl) (by rfl) (by kernel_rfl) ?_; clear H; intro wx H) | (refine wpList_store_st H rfl 47 _ _ rfl rfl rfl (by kernel_rfl) (by rfl) (by kernel_rfl) ?_; clear H; intro wx H) | (refine wpList_store_st H rfl 45 _ _ rfl rfl rfl (by kernel_rfl) (by rfl) (by kernel_rfl) ?_; clear H; intro wx H) | (refine wpList_store1_st H rfl 3 _ _ rfl rfl _ rfl (by rfl) s1_int (by rfl) (by rfl) ?_; clear H; intro wx H) | (refine wpList_store1_st H rfl 4 _ _ rfl rfl _ rfl (by rfl) s1_bool (by rfl) (by rfl) ?_; clear H; intro wx H) | (refine wpList_store1_st H rfl 40 _ _ rfl rfl _ rfl (by rfl) s1_Errno (by rfl) (by rfl) ?_; clear H; intro wx H) | (refine wpList_store1_st H rfl 23 _ _ rfl rfl _ rfl (by rfl) s1_Msgs (by rfl) (by rfl) ?_; clear H; intro wx H) | (refine wpList_store1_st H rfl 24 _ _ rfl rfl _ rfl (by rfl) s1_Lss (by rfl) (by rfl) ?_; clear H; intro wx H))
    | ((with_reducible refine here_alloc ?_); first | (refine wpList_alloc_st H rfl 30 rfl _ q_zero ?_; clear H; intro gq2 wx H) | (refine wpList_alloc_st H rfl 47 rfl _ ans_zero ?_; clear H; intro ga2 wx H) | (refine wpList_alloc_st H rfl 45 rfl _ ev_zero ?_; clear H; intro ge2 wx H))
    | ((with_reducible refine here_box ?_); first | (refine wpList_box_st H rfl _ _ rfl _ rfl ?_; clear H; intro gb2 wx H)))
          go_wp2_with (first
    | ((with_reducible refine here_load ?_); first | (refine wpList_load_st H rfl 30 _ rfl rfl row_Queue (by kernel_rfl) ?_) | (refine wpList_load_st H rfl 47 _ rfl rfl row_Answer (by kernel_rfl) ?_) | (refine wpList_load_st H rfl 45 _ rfl rfl row_Event (by kernel_rfl) ?_) | (refine wpList_load1_st H rfl 3 _ rfl rfl sc_int (by rfl) ?_) | (refine wpList_load1_stG H (by rfl) 3 _ rfl rfl sc_int (by rfl) ?_) | (refine wpList_load1_st H rfl 4 _ rfl rfl sc_bool (by rfl) ?_) | (refine wpList_load1_stG H (by rfl) 4 _ rfl rfl sc_bool (by rfl) ?_) | (refine wpList_load1_st H rfl 40 _ rfl rfl sc_Errno (by rfl) ?_) | (refine wpList_load1_stG H (by rfl) 40 _ rfl rfl sc_Errno (by rfl) ?_) | (refine wpList_load1_st H rfl 23 _ rfl rfl sc_Msgs (by rfl) ?_) | (refine wpList_load1_stG H (by rfl) 23 _ rfl rfl sc_Msgs (by rfl) ?_) | (refine wpList_load1_st H rfl 24 _ rfl rfl sc_Lss (by rfl) ?_) | (refine wpList_load1_stG H (by rfl) 24 _ rfl rfl sc_Lss (by rfl) ?_))
    | ((with_reducible refine here_store ?_); first | (refine wpList_store_st H rfl 30 _ _ rfl rfl rfl (by kernel_rfl) (by rfl) (by kernel_rfl) ?_; clear H; intro wx H) | (refine wpList_store_st H rfl 47 _ _ rfl rfl rfl (by kernel_rfl) (by rfl) (by kernel_rfl) ?_; clear H; intro wx H) | (refine wpList_store_st H rfl 45 _ _ rfl rfl rfl (by kernel_rfl) (by rfl) (by kernel_rfl) ?_; clear H; intro wx H) | (refine wpList_store1_st H rfl 3 _ _ rfl rfl _ rfl (by rfl) s1_int (by rfl) (by rfl) ?_; clear H; intro wx H) | (refine wpList_store1_st H rfl 4 _ _ rfl rfl _ rfl (by rfl) s1_bool (by rfl) (by rfl) ?_; clear H; intro wx H) | (refine wpList_store1_st H rfl 40 _ _ rfl rfl _ rfl (by rfl) s1_Errno (by rfl) (by rfl) ?_; clear H; intro wx H) | (refine wpList_store1_st H rfl 23 _ _ rfl rfl _ rfl (by rfl) s1_Msgs (by rfl) (by rfl) ?_; clear H; intro wx H) | (refine wpList_store1_st H rfl 24 _ _ rfl rfl _ rfl (by rfl) s1_Lss (by rfl) (by rfl) ?_; clear H; intro wx H))
    | ((with_reducible refine here_alloc ?_); first | (refine wpList_alloc_st H rfl 30 rfl _ q_zero ?_; clear H; intro gq2 wx H) | (refine wpList_alloc_st H rfl 47 rfl _ ans_zero ?_; clear H; intro ga2 wx H) | (refine wpList_alloc_st H rfl 45 rfl _ ev_zero ?_; clear H; intro ge2 wx H))
    | ((with_reducible refine here_box ?_); first | (refine wpList_box_st H rfl _ _ rfl _ rfl ?_; clear H; intro gb2 wx H)))
          refine (CD.out _ _ H inferInstance inferInstance).mono ?_
          rintro ed wy ⟨F1, f1, F2, f2, rfl, u1, u2, H⟩
          go_upto_region 14 with (first
    | ((with_reducible refine here_load ?_); first | (refine wpList_load_st H rfl 30 _ rfl rfl row_Queue (by kernel_rfl) ?_) | (refine wpList_load_st H rfl 47 _ rfl rfl row_Answer (by kernel_rfl) ?_) | (refine wpList_load_st H rfl 45 _ rfl rfl row_Event (by kernel_rfl) ?_) | (refine wpList_load1_st H rfl 3 _ rfl rfl sc_int (by rfl) ?_) | (refine wpList_load1_stG H (by rfl) 3 _ rfl rfl sc_int (by rfl) ?_) | (refine wpList_load1_st H rfl 4 _ rfl rfl sc_bool (by rfl) ?_) | (refine wpList_load1_stG H (by rfl) 4 _ rfl rfl sc_bool (by rfl) ?_) | (refine wpList_load1_st H rfl 40 _ rfl rfl sc_Errno (by rfl) ?_) | (refine wpList_load1_stG H (by rfl) 40 _ rfl rfl sc_Errno (by rfl) ?_) | (refine wpList_load1_st H rfl 23 _ rfl rfl sc_Msgs (by rfl) ?_) | (refine wpList_load1_stG H (by rfl) 23 _ rfl rfl sc_Msgs (by rfl) ?_) | (refine wpList_load1_st H rfl 24 _ rfl rfl sc_Lss (by rfl) ?_) | (refine wpList_load1_stG H (by rfl) 24 _ rfl rfl sc_Lss (by rfl) ?_))
    | ((with_reducible refine here_store ?_); first | (refine wpList_store_st H rfl 30 _ _ rfl rfl rfl (by kernel_rfl) (by rfl) (by kernel_rfl) ?_; clear H; intro wx H) | (refine wpList_store_st H rfl 47 _ _ rfl rfl rfl (by kernel_rfl) (by rfl) (by kernel_rfl) ?_; clear H; intro wx H) | (refine wpList_store_st H rfl 45 _ _ rfl rfl rfl (by kernel_rfl) (by rfl) (by kernel_rfl) ?_; clear H; intro wx H) | (refine wpList_store1_st H rfl 3 _ _ rfl rfl _ rfl (by rfl) s1_int (by rfl) (by rfl) ?_; clear H; intro wx H) | (refine wpList_store1_st H rfl 4 _ _ rfl rfl _ rfl (by rfl) s1_bool (by rfl) (by rfl) ?_; clear H; intro wx H) | (refine wpList_store1_st H rfl 40 _ _ rfl rfl _ rfl (by rfl) s1_Errno (by rfl) (by rfl) ?_; clear H; intro wx H) | (refine wpList_store1_st H rfl 23 _ _ rfl rfl _ rfl (by rfl) s1_Msgs (by rfl) (by rfl) ?_; clear H; intro wx H) | (refine wpList_store1_st H rfl 24 _ _ rfl rfl _ rfl (by rfl) s1_Lss (by rfl) (by rfl) ?_; clear H; intro wx H))
    | ((with_reducible refine here_alloc ?_); first | (refine wpList_alloc_st H rfl 30 rfl _ q_zero ?_; clear H; intro gq3 wx H) | (refine wpList_alloc_st H rfl 47 rfl _ ans_zero ?_; clear H; intro ga3 wx H) | (refine wpList_alloc_st H rfl 45 rfl _ ev_zero ?_; clear H; intro ge3 wx H))
    | ((with_reducible refine here_box ?_); first | (refine wpList_box_st H rfl _ _ rfl _ rfl ?_; clear H; intro gb3 wx H)))
          have c0 := HC0.out _ H.bel
          have f0 := (H.blk ga3).cell 0
          have f3 := (H.blk ga3).cell 3
          have HH := Lib.hid H
          clear H
          go_quiet ((go_at_call 17; with_reducible exact Calls.quiet_of_same (PB.out _)))
          have H := HH.out.drewN nq
          clear HH c0 f0 f3
          have e1 := (H.blk ga3).cell 1
          have e2 := (H.blk ga3).cell 2
          go_wp2_with (first
    | ((with_reducible refine here_load ?_); first | (refine wpList_load_st H rfl 30 _ rfl rfl row_Queue (by kernel_rfl) ?_) | (refine wpList_load_st H rfl 47 _ rfl rfl row_Answer (by kernel_rfl) ?_) | (refine wpList_load_st H rfl 45 _ rfl rfl row_Event (by kernel_rfl) ?_) | (refine wpList_load1_st H rfl 3 _ rfl rfl sc_int (by rfl) ?_) | (refine wpList_load1_stG H (by rfl) 3 _ rfl rfl sc_int (by rfl) ?_) | (refine wpList_load1_st H rfl 4 _ rfl rfl sc_bool (by rfl) ?_) | (refine wpList_load1_stG H (by rfl) 4 _ rfl rfl sc_bool (by rfl) ?_) | (refine wpList_load1_st H rfl 40 _ rfl rfl sc_Errno (by rfl) ?_) | (refine wpList_load1_stG H (by rfl) 40 _ rfl rfl sc_Errno (by rfl) ?_) | (refine wpList_load1_st H rfl 23 _ rfl rfl sc_Msgs (by rfl) ?_) | (refine wpList_load1_stG H (by rfl) 23 _ rfl rfl sc_Msgs (by rfl) ?_) | (refine wpList_load1_st H rfl 24 _ rfl rfl sc_Lss (by rfl) ?_) | (refine wpList_load1_stG H (by rfl) 24 _ rfl rfl sc_Lss (by rfl) ?_))
    | ((with_reducible refine here_store ?_); first | (refine wpList_store_st H rfl 30 _ _ rfl rfl rfl (by kernel_rfl) (by rfl) (by kernel_rfl) ?_; clear H; intro wx H) | (refine wpList_store_st H rfl 47 _ _ rfl rfl rfl (by kernel_rfl) (by rfl) (by kernel_rfl) ?_; clear H; intro wx H) | (refine wpList_store_st H rfl 45 _ _ rfl rfl rfl (by kernel_rfl) (by rfl) (by kernel_rfl) ?_; clear H; intro wx H) | (refine wpList_store1_st H rfl 3 _ _ rfl rfl _ rfl (by rfl) s1_int (by rfl) (by rfl) ?_; clear H; intro wx H) | (refine wpList_store1_st H rfl 4 _ _ rfl rfl _ rfl (by rfl) s1_bool (by rfl) (by rfl) ?_; clear H; intro wx H) | (refine wpList_store1_st H rfl 40 _ _ rfl rfl _ rfl (by rfl) s1_Errno (by rfl) (by rfl) ?_; clear H; intro wx H) | (refine wpList_store1_st H rfl 23 _ _ rfl rfl _ rfl (by rfl) s1_Msgs (by rfl) (by rfl) ?_; clear H; intro wx H) | (refine wpList_store1_st H rfl 24 _ _ rfl rfl _ rfl (by rfl) s1_Lss (by rfl) (by rfl) ?_; clear H; intro wx H))
    | ((with_reducible refine here_alloc ?_); first | (refine wpList_alloc_st H rfl 30 rfl _ q_zero ?_; clear H; intro gq4 wx H) | (refine wpList_alloc_st H rfl 47 rfl _ ans_zero ?_; clear H; intro ga4 wx H) | (refine wpList_alloc_st H rfl 45 rfl _ ev_zero ?_; clear H; intro ge4 wx H))
    | ((with_reducible refine here_box ?_); first | (refine wpList_box_st H rfl _ _ rfl _ rfl ?_; clear H; intro gb4 wx H)))
          refine (CD2.out _ _ _ _ _ _ H inferInstance inferInstance u1 u2).mono ?_
          clear e1 e2
          rintro ed wy ⟨G1, y1, G2, y2, rfl, v1, v2, H⟩
          have w1 := W1.out
          have hlt := HLT.out
          go_wp2_with (first
    | ((with_reducible refine here_load ?_); first | (refine wpList_load_st H rfl 30 _ rfl rfl row_Queue (by kernel_rfl) ?_) | (refine wpList_load_st H rfl 47 _ rfl rfl row_Answer (by kernel_rfl) ?_) | (refine wpList_load_st H rfl 45 _ rfl rfl row_Event (by kernel_rfl) ?_) | (refine wpList_load1_st H rfl 3 _ rfl rfl sc_int (by rfl) ?_) | (refine wpList_load1_stG H (by rfl) 3 _ rfl rfl sc_int (by rfl) ?_) | (refine wpList_load1_st H rfl 4 _ rfl rfl sc_bool (by rfl) ?_) | (refine wpList_load1_stG H (by rfl) 4 _ rfl rfl sc_bool (by rfl) ?_) | (refine wpList_load1_st H rfl 40 _ rfl rfl sc_Errno (by rfl) ?_) | (refine wpList_load1_stG H (by rfl) 40 _ rfl rfl sc_Errno (by rfl) ?_) | (refine wpList_load1_st H rfl 23 _ rfl rfl sc_Msgs (by rfl) ?_) | (refine wpList_load1_stG H (by rfl) 23 _ rfl rfl sc_Msgs (by rfl) ?_) | (refine wpList_load1_st H rfl 24 _ rfl rfl sc_Lss (by rfl) ?_) | (refine wpList_load1_stG H (by rfl) 24 _ rfl rfl sc_Lss (by rfl) ?_))
    | ((with_reducible refine here_store ?_); first | (refine wpList_store_st H rfl 30 _ _ rfl rfl rfl (by kernel_rfl) (by rfl) (by kernel_rfl) ?_; clear H; intro wx H) | (refine wpList_store_st H rfl 47 _ _ rfl rfl rfl (by kernel_rfl) (by rfl) (by kernel_rfl) ?_; clear H; intro wx H) | (refine wpList_store_st H rfl 45 _ _ rfl rfl rfl (by kernel_rfl) (by rfl) (by kernel_rfl) ?_; clear H; intro wx H) | (refine wpList_store1_st H rfl 3 _ _ rfl rfl _ rfl (by rfl) s1_int (by rfl) (by rfl) ?_; clear H; intro wx H) | (refine wpList_store1_st H rfl 4 _ _ rfl rfl _ rfl (by rfl) s1_bool (by rfl) (by rfl) ?_; clear H; intro wx H) | (refine wpList_store1_st H rfl 40 _ _ rfl rfl _ rfl (by rfl) s1_Errno (by rfl) (by rfl) ?_; clear H; intro wx H) | (refine wpList_store1_st H rfl 23 _ _ rfl rfl _ rfl (by rfl) s1_Msgs (by rfl) (by rfl) ?_; clear H; intro wx H) | (refine wpList_store1_st H rfl 24 _ _ rfl rfl _ rfl (by rfl) s1_Lss (by rfl) (by rfl) ?_; clear H; intro wx H))
    | ((with_reducible refine here_alloc ?_); first | (refine wpList_alloc_st H rfl 30 rfl _ q_zero ?_; clear H; intro gq4 wx H) | (refine wpList_alloc_st H rfl 47 rfl _ ans_zero ?_; clear H; intro ga4 wx H) | (refine wpList_alloc_st H rfl 45 rfl _ ev_zero ?_; clear H; intro ge4 wx H))
    | ((with_reducible refine here_box ?_); first | (refine wpList_box_st H rfl _ _ rfl _ rfl ?_; clear H; intro gb4 wx H)))
          go_roundw
          case rel => exact ⟨k + 1, q2, by omega, by go_num, HF.out, G1, y1, G2, y2, v1, v2, H.subm _⟩
          case measure => simp [intOf]; omega
        · obtain rfl : k = i := by omega
          have hlt2 : ¬ (k : Int) < (k : Int) := by omega
          have hrd : q.rd = [] := by rw [hf.rd, Nat.sub_self]; rfl
          have hls := hf.ls
          have hnx := hf.nx
          have hst : q.step ⟨2, 0, 0, 0, 0, 0⟩ = (q, ⟨10, 0, 0, 0⟩, false) := by simp [QM.step, QM.recv, hrd]
          have CD := Lib.hid (fun W I H h1 h2 => do_st (w0 := w) (w := W) (I := I) (h1 := h1) (h2 := h2) q ⟨2, 0, 0, 0, 0, 0⟩ (A1 := B1) (A2 := B2) (c1 := d1) (c2 := d2) H hf.inv (hf.room.less (by omega)) (by decide) k1 k2)
          rw [hst] at CD
          simp only [QA.val, ansV] at CD
          have HRD := Lib.hid hrd
          have HLS := Lib.hid hls
          have HNX := Lib.hid hnx
          clear hst hrd hls hnx hf k1 k2
          go_upto_region 20 with (first
    | ((with_reducible refine here_load ?_); first | (refine wpList_load_st H rfl 30 _ rfl rfl row_Queue (by kernel_rfl) ?_) | (refine wpList_load_st H rfl 47 _ rfl rfl row_Answer (by kernel_rfl) ?_) | (refine wpList_load_st H rfl 45 _ rfl rfl row_Event (by kernel_rfl) ?_) | (refine wpList_load1_st H rfl 3 _ rfl rfl sc_int (by rfl) ?_) | (refine wpList_load1_stG H (by rfl) 3 _ rfl rfl sc_int (by rfl) ?_) | (refine wpList_load1_st H rfl 4 _ rfl rfl sc_bool (by rfl) ?_) | (refine wpList_load1_stG H (by rfl) 4 _ rfl rfl sc_bool (by rfl) ?_) | (refine wpList_load1_st H rfl 40 _ rfl rfl sc_Errno (by rfl) ?_) | (refine wpList_load1_stG H (by rfl) 40 _ rfl rfl sc_Errno (by rfl) ?_) | (refine wpList_load1_st H rfl 23 _ rfl rfl sc_Msgs (by rfl) ?_) | (refine wpList_load1_stG H (by rfl) 23 _ rfl rfl sc_Msgs (by rfl) ?_) | (refine wpList_load1_st H rfl 24 _ rfl rfl sc_Lss (by rfl) ?_) | (refine wpList_load1_stG H (by rfl) 24 _ rfl rfl sc_Lss (by rfl) ?_))
    | ((with_reducible refine here_store ?_); first | (refine wpList_store_st H rfl 30 _ _ rfl rfl rfl (by kernel_rfl) (by rfl) (by kernel_rfl) ?_; clear H; intro wx H) | (refine wpList_store_st H rfl 47 _ _ rfl rfl rfl (by kernel_rfl) (by rfl) (by kernel_rfl) ?_; clear H; intro wx H) | (refine wpList_store_st H rfl 45 _ _ rfl rfl rfl (by kernel_rfl) (by rfl) (by kernel_rfl) ?_; clear H; intro wx H) | (refine wpList_store1_st H rfl 3 _ _ rfl rfl _ rfl (by rfl) s1_int (by rfl) (by rfl) ?_; clear H; intro wx H) | (refine wpList_store1_st H rfl 4 _ _ rfl rfl _ rfl (by rfl) s1_bool (by rfl) (by rfl) ?_; clear H; intro wx H) | (refine wpList_store1_st H rfl 40 _ _ rfl rfl _ rfl (by rfl) s1_Errno (by rfl) (by rfl) ?_; clear H; intro wx H) | (refine wpList_store1_st H rfl 23 _ _ rfl rfl _ rfl (by rfl) s1_Msgs (by rfl) (by rfl) ?_; clear H; intro wx H) | (refine wpList_store1_st H rfl 24 _ _ rfl rfl _ rfl (by rfl) s1_Lss (by rfl) (by rfl) ?_; clear H; intro wx H))
    | ((with_reducible refine here_alloc ?_); first | (refine wpList_alloc_st H rfl 30 rfl _ q_zero ?_; clear H; intro gq2 wx H) | (refine wpList_alloc_st H rfl 47 rfl _ ans_zero ?_; clear H; intro ga2 wx H) | (refine wpList_alloc_st H rfl 45 rfl _ ev_zero ?_; clear H; intro ge2 wx H))
    | ((with_reducible refine here_box ?_); first | (refine wpList_box_st H rfl _ _ rfl _ rfl ?_; clear H; intro gb2 wx H)))
          go_wp2_with (first
    | ((with_reducible refine here_load ?_); first | (refine wpList_load_st H rfl 30 _ rfl rfl row_Queue (by kernel_rfl) ?_) | (refine wpList_load_st H rfl 47 _ rfl rfl row_Answer (by kernel_rfl) ?_) | (refine wpList_load_st H rfl 45 _ rfl rfl row_Event (by kernel_rfl) ?_) | (refine wpList_load1_st H rfl 3 _ rfl rfl sc_int (by rfl) ?_) | (refine wpList_load1_stG H (by rfl) 3 _ rfl rfl sc_int (by rfl) ?_) | (refine wpList_load1_st H rfl 4 _ rfl rfl sc_bool (by rfl) ?_) | (refine wpList_load1_stG H (by rfl) 4 _ rfl rfl sc_bool (by rfl) ?_) | (refine wpList_load1_st H rfl 40 _ rfl rfl sc_Errno (by rfl) ?_) | (refine wpList_load1_stG H (by rfl) 40 _ rfl rfl sc_Errno (by rfl) ?_) | (refine wpList_load1_st H rfl 23 _ rfl rfl sc_Msgs (by rfl) ?_) | (refine wpList_load1_stG H (by rfl) 23 _ rfl rfl sc_Msgs (by rfl) ?_) | (refine wpList_load1_st H rfl 24 _ rfl rfl sc_Lss (by rfl) ?_) | (refine wpList_load1_stG H (by rfl) 24 _ rfl rfl sc_Lss (by rfl) ?_))
    | ((with_reducible refine here_store ?_); first | (refine wpList_store_st H rfl 30 _ _ rfl rfl rfl (by kernel_rfl) (by rfl) (by kernel_rfl) ?_; clear H; intro wx H) | (refine wpList_store_st H rfl 47 _ _ rfl rfl rfl (by kernel_rfl) (by rfl) (by kernel_rfl) ?_; clear H; intro wx H) | (refine wpList_store_st H rfl 45 _ _ rfl rfl rfl (by kernel_rfl) (by rfl) (by kernel_rfl) ?_; clear H; intro wx H) | (refine wpList_store1_st H rfl 3 _ _ rfl rfl _ rfl (by rfl) s1_int (by rfl) (by rfl) ?_; clear H; intro wx H) | (refine wpList_store1_st H rfl 4 _ _ rfl rfl _ rfl (by rfl) s1_bool (by rfl) (by rfl) ?_; clear H; intro wx H) | (refine wpList_store1_st H rfl 40 _ _ rfl rfl _ rfl (by rfl) s1_Errno (by rfl) (by rfl) ?_; clear H; intro wx H) | (refine wpList_store1_st H rfl 23 _ _ rfl rfl _ rfl (by rfl) s1_Msgs (by rfl) (by rfl) ?_; clear H; intro wx H) | (refine wpList_store1_st H rfl 24 _ _ rfl rfl _ rfl (by rfl) s1_Lss (by rfl) (by rfl) ?_; clear H; intro wx H))
    | ((with_reducible refine here_alloc ?_); first | (refine wpList_alloc_st H rfl 30 rfl _ q_zero ?_; clear H; intro gq2 wx H) | (refine wpList_alloc_st H rfl 47 rfl _ ans_zero ?_; clear H; intro ga2 wx H) | (refine wpList_alloc_st H rfl 45 rfl _ ev_zero ?_; clear H; intro ge2 wx H))
    | ((with_reducible refine here_box ?_); first | (refine wpList_box_st H rfl _ _ rfl _ rfl ?_; clear H; intro gb2 wx H)))
          refine (CD.out _ _ H inferInstance inferInstance).mono ?_
          rintro ed wy ⟨F1, f1, F2, f2, rfl, u1, u2, H⟩
          have hrd := HRD.out
          have hls := HLS.out
          have hnx := HNX.out
          go_wp2_with (first
    | ((with_reducible refine here_load ?_); first | (refine wpList_load_st H rfl 30 _ rfl rfl row_Queue (by kernel_rfl) ?_) | (refine wpList_load_st H rfl 47 _ rfl rfl row_Answer (by kernel_rfl) ?_) | (refine wpList_load_st H rfl 45 _ rfl rfl row_Event (by kernel_rfl) ?_) | (refine wpList_load1_st H rfl 3 _ rfl rfl sc_int (by rfl) ?_) | (refine wpList_load1_stG H (by rfl) 3 _ rfl rfl sc_int (by rfl) ?_) | (refine wpList_load1_st H rfl 4 _ rfl rfl sc_bool (by rfl) ?_) | (refine wpList_load1_stG H (by rfl) 4 _ rfl rfl sc_bool (by rfl) ?_) | (refine wpList_load1_st H rfl 40 _ rfl rfl sc_Errno (by rfl) ?_) | (refine wpList_load1_stG H (by rfl) 40 _ rfl rfl sc_Errno (by rfl) ?_) | (refine wpList_load1_st H rfl 23 _ rfl rfl sc_Msgs (by rfl) ?_) | (refine wpList_load1_stG H (by rfl) 23 _ rfl rfl sc_Msgs (by rfl) ?_) | (refine wpList_load1_st H rfl 24 _ rfl rfl sc_Lss (by rfl) ?_) | (refine wpList_load1_stG H (by rfl) 24 _ rfl rfl sc_Lss (by rfl) ?_))
    | ((with_reducible refine here_store ?_); first | (refine wpList_store_st H rfl 30 _ _ rfl rfl rfl (by kernel_rfl) (by rfl) (by kernel_rfl) ?_; clear H; intro wx H) | (refine wpList_store_st H rfl 47 _ _ rfl rfl rfl (by kernel_rfl) (by rfl) (by kernel_rfl) ?_; clear H; intro wx H) | (refine wpList_store_st H rfl 45 _ _ rfl rfl rfl (by kernel_rfl) (by rfl) (by kernel_rfl) ?_; clear H; intro wx H) | (refine wpList_store1_st H rfl 3 _ _ rfl rfl _ rfl (by rfl) s1_int (by rfl) (by rfl) ?_; clear H; intro wx H) | (refine wpList_store1_st H rfl 4 _ _ rfl rfl _ rfl (by rfl) s1_bool (by rfl) (by rfl) ?_; clear H; intro wx H) | (refine wpList_store1_st H rfl 40 _ _ rfl rfl _ rfl (by rfl) s1_Errno (by rfl) (by rfl) ?_; clear H; intro wx H) | (refine wpList_store1_st H rfl 23 _ _ rfl rfl _ rfl (by rfl) s1_Msgs (by rfl) (by rfl) ?_; clear H; intro wx H) | (refine wpList_store1_st H rfl 24 _ _ rfl rfl _ rfl (by rfl) s1_Lss (by rfl) (by rfl) ?_; clear H; intro wx H))
    | ((with_reducible refine here_alloc ?_); first | (refine wpList_alloc_st H rfl 30 rfl _ q_zero ?_; clear H; intro gq3 wx H) | (refine wpList_alloc_st H rfl 47 rfl _ ans_zero ?_; clear H; intro ga3 wx H) | (refine wpList_alloc_st H rfl 45 rfl _ ev_zero ?_; clear H; intro ge3 wx H))
    | ((with_reducible refine here_box ?_); first | (refine wpList_box_st H rfl _ _ rfl _ rfl ?_; clear H; intro gb3 wx H)))
          go_ret
          exact ⟨rfl, H.bel⟩

end Go.Proofs.Ytkolmpeghnkjkaa
