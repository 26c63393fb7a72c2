/- QueueOnce: the walk. -/
import Derived.Test.YtkolmpeghnkjkaaQSt
import Derived.BigFrame
namespace Go.Proofs.Ytkolmpeghnkjkaa
open Go.RowKit

set_option maxRecDepth 100000 in
set_option maxHeartbeats 4000000 in
theorem qcheck_neg (w : World) : Calls Try.prog 18 #[.agg (qCells (-1) 0 0 (.slice none 0 0) (.slice none 0 0) (fun _ => 0) (fun _ _ => false))] w (Puts w (.int .i64 6)) := by
  have H := St.start w
  have x0 := show (qCells (-1) 0 0 (.slice none 0 0) (.slice none 0 0) (fun _ => 0) (fun _ _ => false))[0]? = some (.int .i64 (-1)) from rfl
  generalize qCells (-1) 0 0 (.slice none 0 0) (.slice none 0 0) (fun _ => 0) (fun _ _ => false) = cs at *
  have E := Blk.new w 30 cs
  have y0 := (E.cell 0).trans x0
  have bel := (Below.refl w.heap.size w).alloc (Nat.le_refl _) (.cells cs 30)
  clear x0 E H
  go_enter Try.func18, Try.ntmps18
  go_wp2_with fail
  go_ret
  exact ⟨rfl, bel⟩

set_option maxRecDepth 100000 in
set_option maxHeartbeats 8000000 in
theorem queueOnce_walk (A : Option Addr) (n c : Nat) (rows : List (List Int)) (id body : Int) (w : World) (h : IsRows 4 32 w A n c rows) (hid : Is64 id) (hbd : Is64 body) :
    Calls Try.prog 4 #[.slice A n c, .int .i64 id, .int .i64 body] w fun e w' => e = .returned (.bool true) ∧ Below w.heap.size w w' := by
  have H := St.start w
  have PL := Lib.hid (fun I H => played_st (w0 := w) (w := w) (I := I) A n c 60 rows H h (by omega))
  have hok := playN_ok rows (min n 60) (by omega)
  have hkp := playN_keeps rows (min n 60)
  have hsn := Lib.hid (playN_seen rows (min n 60))
  generalize playN rows (min n 60) = p at *
  obtain ⟨kp1, _, _⟩ := hkp
  have hle := hok.le
  obtain ⟨b1, b2⟩ := hbd
  obtain ⟨i1, i2⟩ := hid
  have HOK := Lib.hid hok
  clear hok
  go_enter Try.func4, Try.ntmps4
  go_wp2_with fail
  refine (PL.out _ H).mono ?_
  clear H
  rintro ed wx ⟨B1, d1, B2, d2, Ae, ce, Aa, ca, rfl, k1, k2, k3, k4, H⟩
  go_upto_region 2 with (first
    | (refine wpList_alloc_st H rfl 30 rfl _ q_zero ?_; clear H; intro gx wx H)
    | (refine wpList_alloc_st H rfl 47 rfl _ ans_zero ?_; clear H; intro gx wx H)
    | (refine wpList_alloc_st H rfl 45 rfl _ ev_zero ?_; clear H; intro gx wx H)
    | (refine wpList_store_st H rfl _ _ _ rfl rfl rfl (by kernel_rfl) (by rfl) (by kernel_rfl) ?_; clear H; intro wx H)
    | (refine wpList_store1_st H rfl _ _ _ rfl rfl _ rfl (by rfl) (by kernel_rfl) (by rfl) (by rfl) ?_; clear H; intro wx H)
    | (refine wpList_load_st H rfl _ _ rfl rfl (by kernel_rfl) (by kernel_rfl) ?_)
    | (refine wpList_load1_st H rfl _ _ rfl rfl (by rfl) (by rfl) ?_)
    | (refine wpList_load1_stG H (by rfl) _ _ rfl rfl (by rfl) (by rfl) ?_)
    | (refine wpList_box_st H rfl _ _ rfl _ rfl ?_; clear H; intro gx wx H))
  go_wp2_with (first
    | (refine wpList_alloc_st H rfl 30 rfl _ q_zero ?_; clear H; intro gx wx H)
    | (refine wpList_alloc_st H rfl 47 rfl _ ans_zero ?_; clear H; intro gx wx H)
    | (refine wpList_alloc_st H rfl 45 rfl _ ev_zero ?_; clear H; intro gx wx H)
    | (refine wpList_store_st H rfl _ _ _ rfl rfl rfl (by kernel_rfl) (by rfl) (by kernel_rfl) ?_; clear H; intro wx H)
    | (refine wpList_store1_st H rfl _ _ _ rfl rfl _ rfl (by rfl) (by kernel_rfl) (by rfl) (by rfl) ?_; clear H; intro wx H)
    | (refine wpList_load_st H rfl _ _ rfl rfl (by kernel_rfl) (by kernel_rfl) ?_)
    | (refine wpList_load1_st H rfl _ _ rfl rfl (by rfl) (by rfl) ?_)
    | (refine wpList_load1_stG H (by rfl) _ _ rfl rfl (by rfl) (by rfl) ?_)
    | (refine wpList_box_st H rfl _ _ rfl _ rfl ?_; clear H; intro gx wx H))
  refine (count_st p.es Ae ce 1 H (by omega)).mono ?_
  rintro ed wx ⟨rfl, rfl⟩
  obtain ⟨N, hN⟩ : ∃ N, p.es.countP (isKind 1) = N := ⟨_, rfl⟩
  rw [hN] at kp1 ⊢
  have HN := Lib.hid hN
  have hrdl : p.q.rd.length ≤ N := by omega
  clear hN kp1
  by_cases h0 : N = 0
  · subst h0
    obtain ⟨R, hR⟩ : ∃ R, p.q.rd.length = R := ⟨_, rfl⟩
    have hR0 : R = 0 := by omega
    subst hR0
    clear hsn HOK HN PL hle hrdl k1 k2 k3 k4
    have HR := Lib.hid hR
    go_upto_region 3 with fail
    clear hR
    have hnil : p.q.rd = [] := List.length_eq_zero_iff.1 HR.out
    go_wp2_with (first | (go_at_call 18; refine (qcheck_neg _).mono ?_; rintro ed wx ⟨rfl, bb⟩; replace H := H.below bb; clear bb) | (first
    | (refine wpList_alloc_st H rfl 30 rfl _ q_zero ?_; clear H; intro gx wx H)
    | (refine wpList_alloc_st H rfl 47 rfl _ ans_zero ?_; clear H; intro gx wx H)
    | (refine wpList_alloc_st H rfl 45 rfl _ ev_zero ?_; clear H; intro gx wx H)
    | (refine wpList_store_st H rfl _ _ _ rfl rfl rfl (by kernel_rfl) (by rfl) (by kernel_rfl) ?_; clear H; intro wx H)
    | (refine wpList_store1_st H rfl _ _ _ rfl rfl _ rfl (by rfl) (by kernel_rfl) (by rfl) (by rfl) ?_; clear H; intro wx H)
    | (refine wpList_load_st H rfl _ _ rfl rfl (by kernel_rfl) (by kernel_rfl) ?_)
    | (refine wpList_load1_st H rfl _ _ rfl rfl (by rfl) (by rfl) ?_)
    | (refine wpList_load1_stG H (by rfl) _ _ rfl rfl (by rfl) (by rfl) ?_)
    | (refine wpList_box_st H rfl _ _ rfl _ rfl ?_; clear H; intro gx wx H)))
    go_ret
    exact ⟨rfl, H.bel⟩
  · have hN1 : ((N : Int) == 0) = false := by rw [beq_eq_false_iff_ne]; omega
    have hNI : ¬ (N : Int) = 0 := by omega
    have hNM : N ≤ p.es.length := by rw [← HN.out]; exact List.countP_le_length
    have j0 := pick_lo id N (by omega)
    have j1 := pick_hi id N (by omega)
    have PJ := Lib.hid (fun W => picked_any id N W i1 i2 (by omega) (by omega))
    obtain ⟨j, hj⟩ : ∃ j : Nat, pick id N = (j : Int) := ⟨(pick id N).toNat, by omega⟩
    rw [hj] at j0 j1 PJ
    have hjN : j < N := by omega
    clear hj j0 j1 i1 i2 hrdl
    go_upto_region 7 with (first | (go_at_call 17; refine (PJ.out _).mono ?_; rintro e w' ⟨rfl, rfl⟩) | (first
    | (refine wpList_alloc_st H rfl 30 rfl _ q_zero ?_; clear H; intro gx wx H)
    | (refine wpList_alloc_st H rfl 47 rfl _ ans_zero ?_; clear H; intro gx wx H)
    | (refine wpList_alloc_st H rfl 45 rfl _ ev_zero ?_; clear H; intro gx wx H)
    | (refine wpList_store_st H rfl _ _ _ rfl rfl rfl (by kernel_rfl) (by rfl) (by kernel_rfl) ?_; clear H; intro wx H)
    | (refine wpList_store1_st H rfl _ _ _ rfl rfl _ rfl (by rfl) (by kernel_rfl) (by rfl) (by rfl) ?_; clear H; intro wx H)
    | (refine wpList_load_st H rfl _ _ rfl rfl (by kernel_rfl) (by kernel_rfl) ?_)
    | (refine wpList_load1_st H rfl _ _ rfl rfl (by rfl) (by rfl) ?_)
    | (refine wpList_load1_stG H (by rfl) _ _ rfl rfl (by rfl) (by rfl) ?_)
    | (refine wpList_box_st H rfl _ _ rfl _ rfl ?_; clear H; intro gx wx H)))
    obtain ⟨M, hM⟩ : ∃ M, p.es.length = M := ⟨_, rfl⟩
    rw [hM] at hle k3 hNM ⊢
    have HM := Lib.hid hM
    have HH := H
    clear hM PL PJ hNI hN1
    go_loopw [12, 13] (fun s12 s13 wr => ∃ (i k : Nat), i ≤ M ∧ s13 = .int .i64 i ∧ s12 = .int .i64 k ∧ (p.es.take i).countP (isKind 1) + k = j ∧ wr = wx) (fun _ s13 _ => M - (intOf s13).toNat)
    case atStart => exact ⟨0, j, by omega, rfl, rfl, by simp, rfl⟩
    case round =>
      obtain ⟨i, k, hi, rfl, rfl, hik, rfl⟩ := hrel
      by_cases hlt : i < M
      · obtain ⟨b, off, rfl, hb, q0, q1, q2, q3, q4, q5⟩ := qevAt (H.get (evIt Ae p.es)) rfl (show i < p.es.length by rw [HM.out]; exact hlt)
        have hT := Lib.hid (count_take p.es 1 i (by rw [HM.out]; exact hlt))
        have hmem : p.es.getD i .zero0 ∈ p.es := by
          rw [List.getD, List.getElem?_eq_getElem (show i < p.es.length by rw [HM.out]; exact hlt)]
          exact List.getElem_mem _
        have hS := hsn.out _ hmem
        generalize p.es.getD i .zero0 = ev at *
        obtain ⟨x0, x1, x2, x3, x4, x5⟩ := ev
        dsimp only at q0 q1 q2 q3 q4 q5 hS
        have hI1 : (i : Int) < (M : Int) := by omega
        have hI0 : (0 : Int) ≤ (i : Int) := by omega
        have hI2 : (M : Int) ≤ (ce : Int) := by omega
        have w1 : IntKind.i64.wrap ((i : Int) + 1) = (i : Int) + 1 := IntWalk.i64_in _ (by omega)
        have hik' := Lib.hid hik
        have hkj : k ≤ j := by omega
        clear hmem hik
        by_cases hk : x0 = 1
        · have hx1 : (x0 != 1) = false := by simp [hk]
          subst hk
          by_cases hk0 : 0 < k
          · have hk1 : (0 : Int) < (k : Int) := by omega
            have w2 : IntKind.i64.wrap ((k : Int) - 1) = (k : Int) - 1 := IntWalk.i64_in _ (by omega)
            have hke : (((k - 1 : Nat) : Nat) : Int) = (k : Int) - 1 := by omega
            go_wp2_with fail
            go_roundw
            case rel => exact ⟨i + 1, k - 1, by omega, by go_num, by rw [hke], by rw [hT.out, if_pos rfl]; have := hik'.out; omega, trivial⟩
            case measure => simp [intOf]; omega
          · have hk1 : ¬ (0 : Int) < (k : Int) := by omega
            obtain ⟨hchk, hseen⟩ := hS
            obtain ⟨y1, y2, y3, y4, y5, y6, y7, y8⟩ := check_pub hchk rfl
            have hseen := hseen rfl
            dsimp only at y1 y2 y3 y4 y5 y6 y7 y8 hseen
            have m0 := pick_lo body 1000 (by omega)
            have m1 := pick_hi body 1000 (by omega)
            have PB := Lib.hid (fun W => picked_any body 1000 W b1 b2 (by omega) (by omega))
            generalize pick body 1000 = m at *
            have hck2 : (⟨1, x1, x2, m, x4, x5⟩ : Ev).check = 0 := by
              unfold Ev.check
              rw [if_pos rfl, if_pos (by simp [Ev.ok1, inB]; omega), if_pos (by simp [y7, y8])]
            have hst : ∃ cd, (cd = 0 ∨ cd = 9) ∧ p.q.step ⟨1, x1, x2, m, x4, x5⟩ = (p.q, ⟨cd, 0, 0, 0⟩, false) := by
              unfold QM.step
              rw [if_pos rfl]
              dsimp only
              split
              · exact ⟨9, .inr rfl, rfl⟩
              · first | exact ⟨0, .inl rfl, rfl⟩ | (rw [if_pos hseen]; exact ⟨0, .inl rfl, rfl⟩)
            obtain ⟨cd, hcd, hst⟩ := hst
            have CD := Lib.hid (fun W I H h1 h2 => do_st (w0 := w) (w := W) (I := I) (h1 := h1) (h2 := h2) p.q ⟨1, x1, x2, m, x4, x5⟩ (A1 := B1) (A2 := B2) (c1 := d1) (c2 := d2) H HOK.out.inv (HOK.out.room.less (by omega)) hck2 k1 k2)
            rw [hst] at CD
            clear hst hck2 hseen hchk y1 y2 y3 y4 y5 y6 y7 y8 k1 k2 hx1 b1 b2
            go_upto_region 14 with (first | (go_at_call 17; refine (PB.out _).mono ?_; rintro e w' ⟨rfl, rfl⟩) | (first
    | (refine wpList_alloc_st H rfl 30 rfl _ q_zero ?_; clear H; intro gx wx H)
    | (refine wpList_alloc_st H rfl 47 rfl _ ans_zero ?_; clear H; intro gx wx H)
    | (refine wpList_alloc_st H rfl 45 rfl _ ev_zero ?_; clear H; intro gx wx H)
    | (refine wpList_store_st H rfl _ _ _ rfl rfl rfl (by kernel_rfl) (by rfl) (by kernel_rfl) ?_; clear H; intro wx H)
    | (refine wpList_store1_st H rfl _ _ _ rfl rfl _ rfl (by rfl) (by kernel_rfl) (by rfl) (by rfl) ?_; clear H; intro wx H)
    | (refine wpList_load_st H rfl _ _ rfl rfl (by kernel_rfl) (by kernel_rfl) ?_)
    | (refine wpList_load1_st H rfl _ _ rfl rfl (by rfl) (by rfl) ?_)
    | (refine wpList_load1_stG H (by rfl) _ _ rfl rfl (by rfl) (by rfl) ?_)
    | (refine wpList_box_st H rfl _ _ rfl _ rfl ?_; clear H; intro gx wx H)))
            go_wp2_with (first
    | (refine wpList_alloc_st H rfl 30 rfl _ q_zero ?_; clear H; intro gx wx H)
    | (refine wpList_alloc_st H rfl 47 rfl _ ans_zero ?_; clear H; intro gx wx H)
    | (refine wpList_alloc_st H rfl 45 rfl _ ev_zero ?_; clear H; intro gx wx H)
    | (refine wpList_store_st H rfl _ _ _ rfl rfl rfl (by kernel_rfl) (by rfl) (by kernel_rfl) ?_; clear H; intro wx H)
    | (refine wpList_store1_st H rfl _ _ _ rfl rfl _ rfl (by rfl) (by kernel_rfl) (by rfl) (by rfl) ?_; clear H; intro wx H)
    | (refine wpList_load_st H rfl _ _ rfl rfl (by kernel_rfl) (by kernel_rfl) ?_)
    | (refine wpList_load1_st H rfl _ _ rfl rfl (by rfl) (by rfl) ?_)
    | (refine wpList_load1_stG H (by rfl) _ _ rfl rfl (by rfl) (by rfl) ?_)
    | (refine wpList_box_st H rfl _ _ rfl _ rfl ?_; clear H; intro gx wx H))
            refine (CD.out _ _ H inferInstance inferInstance).mono ?_
            rintro ed wy ⟨F1, f1, F2, f2, rfl, u1, u2, H⟩
            unfold QA.val ansV
            dsimp only at H u1 u2 ⊢
            rcases hcd with rfl | rfl
            all_goals
              go_wp2_with (first
    | (refine wpList_alloc_st H rfl 30 rfl _ q_zero ?_; clear H; intro gx wx H)
    | (refine wpList_alloc_st H rfl 47 rfl _ ans_zero ?_; clear H; intro gx wx H)
    | (refine wpList_alloc_st H rfl 45 rfl _ ev_zero ?_; clear H; intro gx wx H)
    | (refine wpList_store_st H rfl _ _ _ rfl rfl rfl (by kernel_rfl) (by rfl) (by kernel_rfl) ?_; clear H; intro wx H)
    | (refine wpList_store1_st H rfl _ _ _ rfl rfl _ rfl (by rfl) (by kernel_rfl) (by rfl) (by rfl) ?_; clear H; intro wx H)
    | (refine wpList_load_st H rfl _ _ rfl rfl (by kernel_rfl) (by kernel_rfl) ?_)
    | (refine wpList_load1_st H rfl _ _ rfl rfl (by rfl) (by rfl) ?_)
    | (refine wpList_load1_stG H (by rfl) _ _ rfl rfl (by rfl) (by rfl) ?_)
    | (refine wpList_box_st H rfl _ _ rfl _ rfl ?_; clear H; intro gx wx H))
              go_ret
              exact ⟨rfl, H.bel⟩
        · have hx1 : (x0 != 1) = true := by simp [hk]
          go_wp2_with fail
          go_roundw
          case rel => exact ⟨i + 1, k, by omega, by go_num, rfl, by rw [hT.out, if_neg hk]; have := hik'.out; omega, trivial⟩
          case measure => simp [intOf]; omega
      · have him : i = M := by omega
        have := HN.out
        rw [him, ← HM.out, List.take_length] at hik
        omega

end Go.Proofs.Ytkolmpeghnkjkaa
