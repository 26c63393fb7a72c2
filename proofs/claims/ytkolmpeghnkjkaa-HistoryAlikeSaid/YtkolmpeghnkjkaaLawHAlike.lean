/- HistoryAlike: the walk. -/
import Derived.Test.YtkolmpeghnkjkaaHCom
import Derived.Deep.QuietTactic
import Derived.BigQuiet
namespace Go.Proofs.Ytkolmpeghnkjkaa
open Go.RowKit

theorem common_self {w0 w : World} {I : List It} (fs : List Ev) (A : Option Addr) (n c : Nat) (hn : fs.length = n) (H : St w0 w I) [h1 : Has I (evIt A fs)] (hn1 : n ≤ 1000) (hc : n ≤ c) :
    Calls Try.prog 21 #[.slice A n c, .slice A n c] w (fun ed w' => ed = .returned (.int .i64 n) ∧ St w0 w' I) := by
  refine (common_st fs fs A A n n c c hn hn H hn1 hn1 hc hc).mono fun ed w' ⟨i, h1, h2, h3⟩ => ⟨?_, h3⟩
  rw [h1, h2.self, hn]

set_option maxRecDepth 100000 in
set_option maxHeartbeats 8000000 in
theorem historyAlike_walk (A : Option Addr) (n c : Nat) (rows : List (List Int)) (id : Int) (X : Option Addr) (nx cx : Nat) (rx : List (List Int)) (w : World) (h : IsRows 4 32 w A n c rows) (hid : Is64 id) (hx : IsRows 4 32 w X nx cx rx) :
    Calls Try.prog 10 #[.slice A n c, .int .i64 id, .slice X nx cx] w fun e w' => e = .returned (.bool true) ∧ Below w.heap.size w w' := by
  have H := St.start w
  have PL := Lib.hid (fun I H => played_st (w0 := w) (w := w) (I := I) A n c 60 rows H h (by omega))
  have hok := playN_ok rows (min n 60) (by omega)
  generalize playN rows (min n 60) = p at *
  have hle := hok.le
  obtain ⟨i1, i2⟩ := hid
  obtain ⟨M, hM⟩ : ∃ M, p.es.length = M := ⟨_, rfl⟩
  have hM60 : M ≤ 60 := by omega
  have j0 := pick_lo id ((M : Int) + 1) (by omega)
  have j1 := pick_hi id ((M : Int) + 1) (by omega)
  have PJ := Lib.hid (fun W => picked_any id ((M : Int) + 1) W i1 i2 (by omega) (by omega))
  obtain ⟨k, hk⟩ : ∃ k : Nat, pick id ((M : Int) + 1) = (k : Int) := ⟨(pick id ((M : Int) + 1)).toNat, by omega⟩
  rw [hk] at j0 j1 PJ
  have hkM : k ≤ M := by omega
  obtain ⟨E, hE⟩ : ∃ E, p.es.take k = E := ⟨_, rfl⟩
  have hEl : E.length = k := by rw [← hE]; simp; omega
  have HM := Lib.hid hM
  have HE := Lib.hid hE
  have HEL := Lib.hid hEl
  have HX := Lib.hid hx
  have w1 : IntKind.i64.wrap ((M : Int) + 1) = (M : Int) + 1 := IntWalk.i64_in _ (by omega)
  have k0 : (0 : Int) ≤ (k : Int) := by omega
  have k1' : (k : Int) ≤ (M : Int) := by omega
  clear hok hk hM hE hEl i1 i2 j0 j1 hle h hx
  go_enter Try.func10, Try.ntmps10
  go_wp2_with fail
  refine (PL.out _ H).mono ?_
  clear H PL
  rintro ed wx ⟨B1, d1, B2, d2, Ae, ce, Aa, ca, rfl, k1, k2, k3, k4, H⟩
  rw [HM.out] at k3 ⊢
  have k3' : (M : Int) ≤ (ce : Int) := by omega
  have k3'' : (k : Int) ≤ (ce : Int) := by omega
  go_upto_region 3 with (first | (go_at_call 17; refine (PJ.out _).mono ?_; rintro e w' ⟨rfl, rfl⟩) | (first
    | ((with_reducible refine here_load ?_); first | (refine wpList_load_st H rfl 30 _ rfl rfl row_Queue (by kernel_rfl) ?_) | (refine wpList_load_st H rfl 47 _ rfl rfl row_Answer (by kernel_rfl) ?_) | (refine wpList_load_st H rfl 45 _ rfl rfl row_Event (by kernel_rfl) ?_) | (refine wpList_load_st H rfl 38 _ rfl rfl row_Deed (by kernel_rfl) ?_) | (refine wpList_load1_st H rfl 3 _ rfl rfl sc_int (by rfl) ?_) | (refine wpList_load1_stG H (by rfl) 3 _ rfl rfl sc_int (by rfl) ?_) | (refine wpList_load1_st H rfl 4 _ rfl rfl sc_bool (by rfl) ?_) | (refine wpList_load1_stG H (by rfl) 4 _ rfl rfl sc_bool (by rfl) ?_) | (refine wpList_load1_st H rfl 40 _ rfl rfl sc_Errno (by rfl) ?_) | (refine wpList_load1_stG H (by rfl) 40 _ rfl rfl sc_Errno (by rfl) ?_) | (refine wpList_load1_st H rfl 23 _ rfl rfl sc_Msgs (by rfl) ?_) | (refine wpList_load1_stG H (by rfl) 23 _ rfl rfl sc_Msgs (by rfl) ?_) | (refine wpList_load1_st H rfl 24 _ rfl rfl sc_Lss (by rfl) ?_) | (refine wpList_load1_stG H (by rfl) 24 _ rfl rfl sc_Lss (by rfl) ?_))
    | ((with_reducible refine here_store ?_); first | (refine wpList_store_st H rfl 30 _ _ rfl rfl rfl (by kernel_rfl) (by rfl) (by kernel_rfl) ?_; clear H; intro wx H) | (refine wpList_store_st H rfl 47 _ _ rfl rfl rfl (by kernel_rfl) (by rfl) (by kernel_rfl) ?_; clear H; intro wx H) | (refine wpList_store_st H rfl 45 _ _ rfl rfl rfl (by kernel_rfl) (by rfl) (by kernel_rfl) ?_; clear H; intro wx H) | (refine wpList_store_st H rfl 38 _ _ rfl rfl rfl (by kernel_rfl) (by rfl) (by kernel_rfl) ?_; clear H; intro wx H) | (refine wpList_store1_st H rfl 3 _ _ rfl rfl _ rfl (by rfl) s1_int (by rfl) (by rfl) ?_; clear H; intro wx H) | (refine wpList_store1_st H rfl 4 _ _ rfl rfl _ rfl (by rfl) s1_bool (by rfl) (by rfl) ?_; clear H; intro wx H) | (refine wpList_store1_st H rfl 40 _ _ rfl rfl _ rfl (by rfl) s1_Errno (by rfl) (by rfl) ?_; clear H; intro wx H) | (refine wpList_store1_st H rfl 23 _ _ rfl rfl _ rfl (by rfl) s1_Msgs (by rfl) (by rfl) ?_; clear H; intro wx H) | (refine wpList_store1_st H rfl 24 _ _ rfl rfl _ rfl (by rfl) s1_Lss (by rfl) (by rfl) ?_; clear H; intro wx H))
    | ((with_reducible refine here_alloc ?_); first | (refine wpList_alloc_st H rfl 30 rfl _ q_zero ?_; clear H; intro gq wx H) | (refine wpList_alloc_st H rfl 47 rfl _ ans_zero ?_; clear H; intro ga wx H) | (refine wpList_alloc_st H rfl 45 rfl _ ev_zero ?_; clear H; intro ge wx H))
    | ((with_reducible refine here_box ?_); first | (refine wpList_box_st H rfl _ _ rfl _ rfl ?_; clear H; intro gb wx H))))
  replace H := H.takeEv k (A := Ae) (es := p.es) (by rw [HM.out]; exact hkM)
  rw [HE.out] at H
  replace H := H.nilOwn 45 6
  go_upto_region 5 with (first | ((with_reducible refine here_call ?_); refine wpList_append_st (v := .slice none 0 0) H rfl _ _ 31 rfl rfl rfl Try.underlying31 _ _ ev_info (by rfl) (by omega) (H.evReads (es := E) HEL.out) (qevCells_one _) (by simp only [maxLen]; omega) (by omega) ?_; clear H; intro A1 c1 wx hc1c1 hc2c1 H; simp only [Nat.zero_add, List.nil_append] at H hc1c1 ⊢) | (first
    | ((with_reducible refine here_load ?_); first | (refine wpList_load_st H rfl 30 _ rfl rfl row_Queue (by kernel_rfl) ?_) | (refine wpList_load_st H rfl 47 _ rfl rfl row_Answer (by kernel_rfl) ?_) | (refine wpList_load_st H rfl 45 _ rfl rfl row_Event (by kernel_rfl) ?_) | (refine wpList_load_st H rfl 38 _ rfl rfl row_Deed (by kernel_rfl) ?_) | (refine wpList_load1_st H rfl 3 _ rfl rfl sc_int (by rfl) ?_) | (refine wpList_load1_stG H (by rfl) 3 _ rfl rfl sc_int (by rfl) ?_) | (refine wpList_load1_st H rfl 4 _ rfl rfl sc_bool (by rfl) ?_) | (refine wpList_load1_stG H (by rfl) 4 _ rfl rfl sc_bool (by rfl) ?_) | (refine wpList_load1_st H rfl 40 _ rfl rfl sc_Errno (by rfl) ?_) | (refine wpList_load1_stG H (by rfl) 40 _ rfl rfl sc_Errno (by rfl) ?_) | (refine wpList_load1_st H rfl 23 _ rfl rfl sc_Msgs (by rfl) ?_) | (refine wpList_load1_stG H (by rfl) 23 _ rfl rfl sc_Msgs (by rfl) ?_) | (refine wpList_load1_st H rfl 24 _ rfl rfl sc_Lss (by rfl) ?_) | (refine wpList_load1_stG H (by rfl) 24 _ rfl rfl sc_Lss (by rfl) ?_))
    | ((with_reducible refine here_store ?_); first | (refine wpList_store_st H rfl 30 _ _ rfl rfl rfl (by kernel_rfl) (by rfl) (by kernel_rfl) ?_; clear H; intro wx H) | (refine wpList_store_st H rfl 47 _ _ rfl rfl rfl (by kernel_rfl) (by rfl) (by kernel_rfl) ?_; clear H; intro wx H) | (refine wpList_store_st H rfl 45 _ _ rfl rfl rfl (by kernel_rfl) (by rfl) (by kernel_rfl) ?_; clear H; intro wx H) | (refine wpList_store_st H rfl 38 _ _ rfl rfl rfl (by kernel_rfl) (by rfl) (by kernel_rfl) ?_; clear H; intro wx H) | (refine wpList_store1_st H rfl 3 _ _ rfl rfl _ rfl (by rfl) s1_int (by rfl) (by rfl) ?_; clear H; intro wx H) | (refine wpList_store1_st H rfl 4 _ _ rfl rfl _ rfl (by rfl) s1_bool (by rfl) (by rfl) ?_; clear H; intro wx H) | (refine wpList_store1_st H rfl 40 _ _ rfl rfl _ rfl (by rfl) s1_Errno (by rfl) (by rfl) ?_; clear H; intro wx H) | (refine wpList_store1_st H rfl 23 _ _ rfl rfl _ rfl (by rfl) s1_Msgs (by rfl) (by rfl) ?_; clear H; intro wx H) | (refine wpList_store1_st H rfl 24 _ _ rfl rfl _ rfl (by rfl) s1_Lss (by rfl) (by rfl) ?_; clear H; intro wx H))
    | ((with_reducible refine here_alloc ?_); first | (refine wpList_alloc_st H rfl 30 rfl _ q_zero ?_; clear H; intro gq wx H) | (refine wpList_alloc_st H rfl 47 rfl _ ans_zero ?_; clear H; intro ga wx H) | (refine wpList_alloc_st H rfl 45 rfl _ ev_zero ?_; clear H; intro ge wx H))
    | ((with_reducible refine here_box ?_); first | (refine wpList_box_st H rfl _ _ rfl _ rfl ?_; clear H; intro gb wx H))))
  replace H : St w wx (.ow 45 6 (.slice A1 (k + 0) c1) (k + 0) (qevCells (E ++ [])) :: [evIt Ae p.es]) := by
    simp only [Nat.add_zero, List.append_nil]
    exact H.subm _
  go_loopw [12, 13] (fun s12 s13 wr => ∃ (i : Nat) (xs : List Ev) (A : Option Addr) (c : Nat), i ≤ nx ∧ i ≤ 5 ∧ s13 = .int .i64 i ∧ s12 = .slice A (k + i) c ∧ xs.length = i ∧ k + i ≤ c ∧ c ≤ maxLen ∧ St w wr (.ow 45 6 (.slice A (k + i) c) (k + i) (qevCells (E ++ xs)) :: [evIt Ae p.es])) (fun _ s13 _ => 5 - (intOf s13).toNat)
  case atStart => exact ⟨0, [], A1, c1, by omega, by omega, rfl, rfl, rfl, hc1c1, hc2c1, H⟩
  case round =>
    clear H hc1c1 hc2c1
    obtain ⟨i, xs, A1, c1, hi, hi5, rfl, rfl, hxs, hc1, hc2, H⟩ := hrel
    by_cases hlt : i < nx ∧ i < 5
    · have hI : (i : Int) < (nx : Int) := by omega
      have hI5 : (i : Int) < 5 := by omega
      have hI0 : (0 : Int) ≤ (i : Int) := by omega
      have w4 : IntKind.i64.wrap ((i : Int) + 1) = (i : Int) + 1 := IntWalk.i64_in _ (by omega)
      obtain ⟨hl, hnc, hcb, hr, hs⟩ := HX.out
      obtain ⟨b, off, rfl, hb, g1, l1⟩ := row4q hl hs hr hlt.1
      have CE := Lib.hid (fun W => event_any _ _ _ _ W (l1 0) (l1 1) (l1 2) (l1 3))
      have q0 : w.cell? ⟨b, off + i * 4, none⟩ = _ := g1 0 (by omega)
      have q1 : w.cell? ⟨b, off + i * 4 + 1, none⟩ = _ := g1 1 (by omega)
      have q2 : w.cell? ⟨b, off + i * 4 + 2, none⟩ = _ := g1 2 (by omega)
      have q3 : w.cell? ⟨b, off + i * 4 + 3, none⟩ = _ := g1 3 (by omega)
      have hcell : ∀ o v, w.cell? ⟨b, o, none⟩ = some v → wr.cell? ⟨b, o, none⟩ = some v := fun o v h => (H.bel.cell hb).trans h
      replace q0 := hcell _ _ q0
      replace q1 := hcell _ _ q1
      replace q2 := hcell _ _ q2
      replace q3 := hcell _ _ q3
      generalize evOf ((rx.getD i []).getD 0 0) ((rx.getD i []).getD 1 0) ((rx.getD i []).getD 2 0) ((rx.getD i []).getD 3 0) = ev at *
      generalize (rx.getD i []).getD 0 0 = z0 at *
      generalize (rx.getD i []).getD 1 0 = z1 at *
      generalize (rx.getD i []).getD 2 0 = z2 at *
      generalize (rx.getD i []).getD 3 0 = z3 at *
      obtain ⟨x0, x1, x2, x3, x4, x5⟩ := ev
      unfold Ev.val at CE
      dsimp only at CE
      have HLT := Lib.hid hlt
      have hcI : (nx : Int) ≤ (cx : Int) := by omega
      clear hcell g1 l1 hl hnc hcb hr hs hb hlt
      go_wp2_with (first | (go_at_call 20; refine (CE.out _).mono ?_; rintro ed wy ⟨rfl, bb⟩; replace H := H.below bb; clear bb) | ((with_reducible refine here_buildSlice ?_); refine wpList_buildSlice1_st H rfl 31 _ rfl 45 Try.underlying31 _ rfl _ ev_info2 (by rfl) (by rfl) ?_; clear H; intro gs wx H) | ((with_reducible refine here_call ?_); refine wpList_appendB_st (v := .slice A1 (k + i) c1) H rfl _ _ 31 rfl rfl rfl Try.underlying31 _ _ ev_info (by rfl) (by rfl) (by rfl) (by kernel_rfl) (by simp only [maxLen]; omega) (by omega) ?_; clear H; intro A2 c2 wx hc1c2 hc2c2 H) | (first
    | ((with_reducible refine here_load ?_); first | (refine wpList_load_st H rfl 30 _ rfl rfl row_Queue (by kernel_rfl) ?_) | (refine wpList_load_st H rfl 47 _ rfl rfl row_Answer (by kernel_rfl) ?_) | (refine wpList_load_st H rfl 45 _ rfl rfl row_Event (by kernel_rfl) ?_) | (refine wpList_load_st H rfl 38 _ rfl rfl row_Deed (by kernel_rfl) ?_) | (refine wpList_load1_st H rfl 3 _ rfl rfl sc_int (by rfl) ?_) | (refine wpList_load1_stG H (by rfl) 3 _ rfl rfl sc_int (by rfl) ?_) | (refine wpList_load1_st H rfl 4 _ rfl rfl sc_bool (by rfl) ?_) | (refine wpList_load1_stG H (by rfl) 4 _ rfl rfl sc_bool (by rfl) ?_) | (refine wpList_load1_st H rfl 40 _ rfl rfl sc_Errno (by rfl) ?_) | (refine wpList_load1_stG H (by rfl) 40 _ rfl rfl sc_Errno (by rfl) ?_) | (refine wpList_load1_st H rfl 23 _ rfl rfl sc_Msgs (by rfl) ?_) | (refine wpList_load1_stG H (by rfl) 23 _ rfl rfl sc_Msgs (by rfl) ?_) | (refine wpList_load1_st H rfl 24 _ rfl rfl sc_Lss (by rfl) ?_) | (refine wpList_load1_stG H (by rfl) 24 _ rfl rfl sc_Lss (by rfl) ?_))
    | ((with_reducible refine here_store ?_); first | (refine wpList_store_st H rfl 30 _ _ rfl rfl rfl (by kernel_rfl) (by rfl) (by kernel_rfl) ?_; clear H; intro wx H) | (refine wpList_store_st H rfl 47 _ _ rfl rfl rfl (by kernel_rfl) (by rfl) (by kernel_rfl) ?_; clear H; intro wx H) | (refine wpList_store_st H rfl 45 _ _ rfl rfl rfl (by kernel_rfl) (by rfl) (by kernel_rfl) ?_; clear H; intro wx H) | (refine wpList_store_st H rfl 38 _ _ rfl rfl rfl (by kernel_rfl) (by rfl) (by kernel_rfl) ?_; clear H; intro wx H) | (refine wpList_store1_st H rfl 3 _ _ rfl rfl _ rfl (by rfl) s1_int (by rfl) (by rfl) ?_; clear H; intro wx H) | (refine wpList_store1_st H rfl 4 _ _ rfl rfl _ rfl (by rfl) s1_bool (by rfl) (by rfl) ?_; clear H; intro wx H) | (refine wpList_store1_st H rfl 40 _ _ rfl rfl _ rfl (by rfl) s1_Errno (by rfl) (by rfl) ?_; clear H; intro wx H) | (refine wpList_store1_st H rfl 23 _ _ rfl rfl _ rfl (by rfl) s1_Msgs (by rfl) (by rfl) ?_; clear H; intro wx H) | (refine wpList_store1_st H rfl 24 _ _ rfl rfl _ rfl (by rfl) s1_Lss (by rfl) (by rfl) ?_; clear H; intro wx H))
    | ((with_reducible refine here_alloc ?_); first | (refine wpList_alloc_st H rfl 30 rfl _ q_zero ?_; clear H; intro gq2 wx H) | (refine wpList_alloc_st H rfl 47 rfl _ ans_zero ?_; clear H; intro ga2 wx H) | (refine wpList_alloc_st H rfl 45 rfl _ ev_zero ?_; clear H; intro ge2 wx H))
    | ((with_reducible refine here_box ?_); first | (refine wpList_box_st H rfl _ _ rfl _ rfl ?_; clear H; intro gb2 wx H))))
      go_roundw
      case rel =>
        refine ⟨i + 1, xs ++ [⟨x0, x1, x2, x3, x4, x5⟩], A2, c2, by have := HLT.out; omega, by have := HLT.out; omega, by go_num, rfl, by simp [hxs], hc1c2, hc2c2, ?_⟩
        rw [evs_snoc, List.append_assoc] at H
        exact H.subm _
      case measure => simp [intOf]; omega
    · have hI : ¬ ((i : Int) < (nx : Int) ∧ (i : Int) < 5) := by omega
      obtain ⟨L, hL⟩ : ∃ L, k + i = L := ⟨_, rfl⟩
      have hl : (E ++ xs).length = L := by rw [List.length_append, HEL.out, hxs]; exact hL
      rw [hL] at H hc1 ⊢
      have HL := Lib.hid hl
      have hleast := fun j (h : IsCommon p.es (E ++ xs) j) => IsCommon.least (k := k) (xs := xs) (by rw [HE.out]; exact h) (by rw [HM.out]; exact hkM)
      have HLS := Lib.hid hleast
      clear hl hleast
      replace H := H.freezeEvAt (A := A1) (c := c1) (n := L) (es := E ++ xs) HL.out
      generalize E ++ xs = F at *
      have hL65 : L ≤ 65 := by omega
      by_cases hnx : i < nx
      · have hg1 : (i : Int) < (nx : Int) := by omega
        have hg2 : ¬ (i : Int) < 5 := by omega
        go_upto_region 9 with (first
    | ((with_reducible refine here_load ?_); first | (refine wpList_load_st H rfl 30 _ rfl rfl row_Queue (by kernel_rfl) ?_) | (refine wpList_load_st H rfl 47 _ rfl rfl row_Answer (by kernel_rfl) ?_) | (refine wpList_load_st H rfl 45 _ rfl rfl row_Event (by kernel_rfl) ?_) | (refine wpList_load_st H rfl 38 _ rfl rfl row_Deed (by kernel_rfl) ?_) | (refine wpList_load1_st H rfl 3 _ rfl rfl sc_int (by rfl) ?_) | (refine wpList_load1_stG H (by rfl) 3 _ rfl rfl sc_int (by rfl) ?_) | (refine wpList_load1_st H rfl 4 _ rfl rfl sc_bool (by rfl) ?_) | (refine wpList_load1_stG H (by rfl) 4 _ rfl rfl sc_bool (by rfl) ?_) | (refine wpList_load1_st H rfl 40 _ rfl rfl sc_Errno (by rfl) ?_) | (refine wpList_load1_stG H (by rfl) 40 _ rfl rfl sc_Errno (by rfl) ?_) | (refine wpList_load1_st H rfl 23 _ rfl rfl sc_Msgs (by rfl) ?_) | (refine wpList_load1_stG H (by rfl) 23 _ rfl rfl sc_Msgs (by rfl) ?_) | (refine wpList_load1_st H rfl 24 _ rfl rfl sc_Lss (by rfl) ?_) | (refine wpList_load1_stG H (by rfl) 24 _ rfl rfl sc_Lss (by rfl) ?_))
    | ((with_reducible refine here_store ?_); first | (refine wpList_store_st H rfl 30 _ _ rfl rfl rfl (by kernel_rfl) (by rfl) (by kernel_rfl) ?_; clear H; intro wx H) | (refine wpList_store_st H rfl 47 _ _ rfl rfl rfl (by kernel_rfl) (by rfl) (by kernel_rfl) ?_; clear H; intro wx H) | (refine wpList_store_st H rfl 45 _ _ rfl rfl rfl (by kernel_rfl) (by rfl) (by kernel_rfl) ?_; clear H; intro wx H) | (refine wpList_store_st H rfl 38 _ _ rfl rfl rfl (by kernel_rfl) (by rfl) (by kernel_rfl) ?_; clear H; intro wx H) | (refine wpList_store1_st H rfl 3 _ _ rfl rfl _ rfl (by rfl) s1_int (by rfl) (by rfl) ?_; clear H; intro wx H) | (refine wpList_store1_st H rfl 4 _ _ rfl rfl _ rfl (by rfl) s1_bool (by rfl) (by rfl) ?_; clear H; intro wx H) | (refine wpList_store1_st H rfl 40 _ _ rfl rfl _ rfl (by rfl) s1_Errno (by rfl) (by rfl) ?_; clear H; intro wx H) | (refine wpList_store1_st H rfl 23 _ _ rfl rfl _ rfl (by rfl) s1_Msgs (by rfl) (by rfl) ?_; clear H; intro wx H) | (refine wpList_store1_st H rfl 24 _ _ rfl rfl _ rfl (by rfl) s1_Lss (by rfl) (by rfl) ?_; clear H; intro wx H))
    | ((with_reducible refine here_alloc ?_); first | (refine wpList_alloc_st H rfl 30 rfl _ q_zero ?_; clear H; intro gq wx H) | (refine wpList_alloc_st H rfl 47 rfl _ ans_zero ?_; clear H; intro ga wx H) | (refine wpList_alloc_st H rfl 45 rfl _ ev_zero ?_; clear H; intro ge wx H))
    | ((with_reducible refine here_box ?_); first | (refine wpList_box_st H rfl _ _ rfl _ rfl ?_; clear H; intro gb wx H)))
        clear hg1 hg2 hnx hI
        go_wp2_with fail
        refine (common_st p.es F Ae A1 M L ce c1 HM.out HL.out H (by omega) (by omega) k3 hc1).mono ?_
        clear H
        rintro ed wx ⟨u, rfl, hC, H⟩
        go_upto_region 10 with fail
        go_wp2_with fail
        refine (common_st F p.es A1 Ae L M c1 ce HL.out HM.out H (by omega) (by omega) hc1 k3).mono ?_
        clear H
        rintro ed wx ⟨u', rfl, hD, H⟩
        obtain rfl := hC.same hD
        clear hD
        have hk1 := HLS.out _ hC
        obtain ⟨c1', c2', c3', c4'⟩ := hC
        rw [HM.out] at c1' c4'
        rw [HL.out] at c2' c4'
        have HC3 := Lib.hid c3'
        have HC4 := Lib.hid c4'
        clear c3' c4'
        have g1 : ¬ (u : Int) < (k : Int) := by omega
        have g2 : ¬ (M : Int) < (u : Int) := by omega
        have g3 : ¬ (L : Int) < (u : Int) := by omega
        go_upto_region 14 with (go_at_call 21; refine (common_self F A1 L c1 HL.out H (by omega) hc1).mono ?_; clear H; rintro ed wx ⟨rfl, H⟩)
        clear g1 g2 g3
        go_loopw [17] (fun s17 wr => ∃ (j : Nat), j ≤ u ∧ s17 = .int .i64 j ∧ St w wr [evIt A1 F, evIt Ae p.es]) (fun s17 _ => u - (intOf s17).toNat)
        case atStart => exact ⟨0, by omega, rfl, H⟩
        case round =>
          clear H
          obtain ⟨j, hj, rfl, H⟩ := hrel
          have k8 : (M : Int) ≤ (ce : Int) := by omega
          have k9 : (L : Int) ≤ (c1 : Int) := by omega
          have k6 : (0 : Int) ≤ (j : Int) := by omega
          by_cases hlt : j < u
          · obtain ⟨b, off, hA, hb, q0, q1, q2, q3, q4, q5⟩ := qevAt (H.get (evIt Ae p.es)) rfl (show j < p.es.length by rw [HM.out]; omega)
            obtain ⟨b', off', hB, hb', r0, r1, r2, r3, r4, r5⟩ := qevAt (H.get (evIt A1 F)) rfl (show j < F.length by rw [HL.out]; omega)
            subst hA
            subst hB
            rw [← HC3.out j hlt] at r0 r1 r2 r3 r4 r5
            generalize p.es.getD j .zero0 = e at *
            have hq := ev_neq e.kind e.prod e.id e.body e.hep e.hno e.kind e.prod e.id e.body e.hep e.hno
            rw [evNe_self] at hq
            obtain ⟨e0, e1, e2, e3, e4, e5⟩ := e
            dsimp only at q0 q1 q2 q3 q4 q5 r0 r1 r2 r3 r4 r5 hq
            have k7 : (j : Int) < (M : Int) := by omega
            have k7' : (j : Int) < (L : Int) := by omega
            have k7'' : (j : Int) < (u : Int) := by omega
            have w1 : IntKind.i64.wrap ((j : Int) + 1) = (j : Int) + 1 := IntWalk.i64_in _ (by omega)
            have HH := Lib.hid H
            have HLT := Lib.hid hlt
            clear hb hb' hlt k1 k2 k3 k4
            go_upto_region 16 with fail
            clear H
            go_quiet (fail)
            have H := HH.out.drewN nq
            clear HH q0 q1 q2 q3 q4 q5 r0 r1 r2 r3 r4 r5 hq
            go_wp2_with fail
            go_roundw
            case rel => exact ⟨j + 1, by have := HLT.out; omega, by go_num, H⟩
            case measure => have := HLT.out; simp [intOf]; omega
          · obtain rfl : j = u := by omega
            have hlt2 : ¬ (j : Int) < (j : Int) := by omega
            clear k1 k2 k3 k4 hlt hj
            by_cases hjM : j = M
            · subst hjM
              go_upto_region 18 with fail
              have HH := Lib.hid H
              clear H
              go_quiet (fail)
              have H := HH.out.drewN nq
              go_wp2_with fail
              go_ret
              exact ⟨rfl, H.bel⟩
            · have n1 : ¬ (j : Int) = (M : Int) := by omega
              have m1 : ((j : Int) == (M : Int)) = false := by rw [beq_eq_false_iff_ne]; omega
              have m2 : (j == M) = false := by rw [beq_eq_false_iff_ne]; omega
              have m3 : decide (j = M) = false := decide_eq_false (by omega)
              have m4 : decide ((j : Int) = (M : Int)) = false := decide_eq_false (by omega)
              by_cases hjL : j = L
              · subst hjL
                go_upto_region 18 with fail
                have HH := Lib.hid H
                clear H
                go_quiet (fail)
                have H := HH.out.drewN nq
                go_wp2_with fail
                go_ret
                exact ⟨rfl, H.bel⟩
              · have n2 : ¬ (j : Int) = (L : Int) := by omega
                have l1 : ((j : Int) == (L : Int)) = false := by rw [beq_eq_false_iff_ne]; omega
                have l2 : (j == L) = false := by rw [beq_eq_false_iff_ne]; omega
                have l3 : decide (j = L) = false := decide_eq_false (by omega)
                have l4 : decide ((j : Int) = (L : Int)) = false := decide_eq_false (by omega)
                have hne : p.es.getD j .zero0 ≠ F.getD j .zero0 := by
                  rcases HC4.out with h | h | h
                  · exact absurd h hjM
                  · exact absurd h hjL
                  · exact h
                obtain ⟨b, off, hA, hb, q0, q1, q2, q3, q4, q5⟩ := qevAt (H.get (evIt Ae p.es)) rfl (show j < p.es.length by rw [HM.out]; omega)
                obtain ⟨b', off', hB, hb', r0, r1, r2, r3, r4, r5⟩ := qevAt (H.get (evIt A1 F)) rfl (show j < F.length by rw [HL.out]; omega)
                subst hA
                subst hB
                have k7 : (j : Int) < (M : Int) := by omega
                have k7' : (j : Int) < (L : Int) := by omega
                have HC0 := HC3
                clear HC3 HC4 HC0
                generalize p.es.getD j .zero0 = e at *
                generalize F.getD j .zero0 = f at *
                have hq := ev_neq e.kind e.prod e.id e.body e.hep e.hno f.kind f.prod f.id f.body f.hep f.hno
                rw [evNe_of hne] at hq
                clear hne
                obtain ⟨e0, e1, e2, e3, e4, e5⟩ := e
                obtain ⟨f0, f1, f2, f3, f4, f5⟩ := f
                dsimp only at q0 q1 q2 q3 q4 q5 r0 r1 r2 r3 r4 r5 hq
                have HH := Lib.hid H
                clear hb hb' hjM hjL
                go_upto_region 18 with fail
                clear H
                go_quiet (fail)
                have H := HH.out.drewN nq
                clear HH q0 q1 q2 q3 q4 q5 r0 r1 r2 r3 r4 r5 hq
                go_wp2_with fail
                go_ret
                exact ⟨rfl, H.bel⟩
      · have hg1 : ¬ (i : Int) < (nx : Int) := by omega
        go_upto_region 9 with (first
    | ((with_reducible refine here_load ?_); first | (refine wpList_load_st H rfl 30 _ rfl rfl row_Queue (by kernel_rfl) ?_) | (refine wpList_load_st H rfl 47 _ rfl rfl row_Answer (by kernel_rfl) ?_) | (refine wpList_load_st H rfl 45 _ rfl rfl row_Event (by kernel_rfl) ?_) | (refine wpList_load_st H rfl 38 _ rfl rfl row_Deed (by kernel_rfl) ?_) | (refine wpList_load1_st H rfl 3 _ rfl rfl sc_int (by rfl) ?_) | (refine wpList_load1_stG H (by rfl) 3 _ rfl rfl sc_int (by rfl) ?_) | (refine wpList_load1_st H rfl 4 _ rfl rfl sc_bool (by rfl) ?_) | (refine wpList_load1_stG H (by rfl) 4 _ rfl rfl sc_bool (by rfl) ?_) | (refine wpList_load1_st H rfl 40 _ rfl rfl sc_Errno (by rfl) ?_) | (refine wpList_load1_stG H (by rfl) 40 _ rfl rfl sc_Errno (by rfl) ?_) | (refine wpList_load1_st H rfl 23 _ rfl rfl sc_Msgs (by rfl) ?_) | (refine wpList_load1_stG H (by rfl) 23 _ rfl rfl sc_Msgs (by rfl) ?_) | (refine wpList_load1_st H rfl 24 _ rfl rfl sc_Lss (by rfl) ?_) | (refine wpList_load1_stG H (by rfl) 24 _ rfl rfl sc_Lss (by rfl) ?_))
    | ((with_reducible refine here_store ?_); first | (refine wpList_store_st H rfl 30 _ _ rfl rfl rfl (by kernel_rfl) (by rfl) (by kernel_rfl) ?_; clear H; intro wx H) | (refine wpList_store_st H rfl 47 _ _ rfl rfl rfl (by kernel_rfl) (by rfl) (by kernel_rfl) ?_; clear H; intro wx H) | (refine wpList_store_st H rfl 45 _ _ rfl rfl rfl (by kernel_rfl) (by rfl) (by kernel_rfl) ?_; clear H; intro wx H) | (refine wpList_store_st H rfl 38 _ _ rfl rfl rfl (by kernel_rfl) (by rfl) (by kernel_rfl) ?_; clear H; intro wx H) | (refine wpList_store1_st H rfl 3 _ _ rfl rfl _ rfl (by rfl) s1_int (by rfl) (by rfl) ?_; clear H; intro wx H) | (refine wpList_store1_st H rfl 4 _ _ rfl rfl _ rfl (by rfl) s1_bool (by rfl) (by rfl) ?_; clear H; intro wx H) | (refine wpList_store1_st H rfl 40 _ _ rfl rfl _ rfl (by rfl) s1_Errno (by rfl) (by rfl) ?_; clear H; intro wx H) | (refine wpList_store1_st H rfl 23 _ _ rfl rfl _ rfl (by rfl) s1_Msgs (by rfl) (by rfl) ?_; clear H; intro wx H) | (refine wpList_store1_st H rfl 24 _ _ rfl rfl _ rfl (by rfl) s1_Lss (by rfl) (by rfl) ?_; clear H; intro wx H))
    | ((with_reducible refine here_alloc ?_); first | (refine wpList_alloc_st H rfl 30 rfl _ q_zero ?_; clear H; intro gq wx H) | (refine wpList_alloc_st H rfl 47 rfl _ ans_zero ?_; clear H; intro ga wx H) | (refine wpList_alloc_st H rfl 45 rfl _ ev_zero ?_; clear H; intro ge wx H))
    | ((with_reducible refine here_box ?_); first | (refine wpList_box_st H rfl _ _ rfl _ rfl ?_; clear H; intro gb wx H)))
        clear hg1 hnx hI
        go_wp2_with fail
        refine (common_st p.es F Ae A1 M L ce c1 HM.out HL.out H (by omega) (by omega) k3 hc1).mono ?_
        clear H
        rintro ed wx ⟨u, rfl, hC, H⟩
        go_upto_region 10 with fail
        go_wp2_with fail
        refine (common_st F p.es A1 Ae L M c1 ce HL.out HM.out H (by omega) (by omega) hc1 k3).mono ?_
        clear H
        rintro ed wx ⟨u', rfl, hD, H⟩
        obtain rfl := hC.same hD
        clear hD
        have hk1 := HLS.out _ hC
        obtain ⟨c1', c2', c3', c4'⟩ := hC
        rw [HM.out] at c1' c4'
        rw [HL.out] at c2' c4'
        have HC3 := Lib.hid c3'
        have HC4 := Lib.hid c4'
        clear c3' c4'
        have g1 : ¬ (u : Int) < (k : Int) := by omega
        have g2 : ¬ (M : Int) < (u : Int) := by omega
        have g3 : ¬ (L : Int) < (u : Int) := by omega
        go_upto_region 14 with (go_at_call 21; refine (common_self F A1 L c1 HL.out H (by omega) hc1).mono ?_; clear H; rintro ed wx ⟨rfl, H⟩)
        clear g1 g2 g3
        go_loopw [17] (fun s17 wr => ∃ (j : Nat), j ≤ u ∧ s17 = .int .i64 j ∧ St w wr [evIt A1 F, evIt Ae p.es]) (fun s17 _ => u - (intOf s17).toNat)
        case atStart => exact ⟨0, by omega, rfl, H⟩
        case round =>
          clear H
          obtain ⟨j, hj, rfl, H⟩ := hrel
          have k8 : (M : Int) ≤ (ce : Int) := by omega
          have k9 : (L : Int) ≤ (c1 : Int) := by omega
          have k6 : (0 : Int) ≤ (j : Int) := by omega
          by_cases hlt : j < u
          · obtain ⟨b, off, hA, hb, q0, q1, q2, q3, q4, q5⟩ := qevAt (H.get (evIt Ae p.es)) rfl (show j < p.es.length by rw [HM.out]; omega)
            obtain ⟨b', off', hB, hb', r0, r1, r2, r3, r4, r5⟩ := qevAt (H.get (evIt A1 F)) rfl (show j < F.length by rw [HL.out]; omega)
            subst hA
            subst hB
            rw [← HC3.out j hlt] at r0 r1 r2 r3 r4 r5
            generalize p.es.getD j .zero0 = e at *
            have hq := ev_neq e.kind e.prod e.id e.body e.hep e.hno e.kind e.prod e.id e.body e.hep e.hno
            rw [evNe_self] at hq
            obtain ⟨e0, e1, e2, e3, e4, e5⟩ := e
            dsimp only at q0 q1 q2 q3 q4 q5 r0 r1 r2 r3 r4 r5 hq
            have k7 : (j : Int) < (M : Int) := by omega
            have k7' : (j : Int) < (L : Int) := by omega
            have k7'' : (j : Int) < (u : Int) := by omega
            have w1 : IntKind.i64.wrap ((j : Int) + 1) = (j : Int) + 1 := IntWalk.i64_in _ (by omega)
            have HH := Lib.hid H
            have HLT := Lib.hid hlt
            clear hb hb' hlt k1 k2 k3 k4
            go_upto_region 16 with fail
            clear H
            go_quiet (fail)
            have H := HH.out.drewN nq
            clear HH q0 q1 q2 q3 q4 q5 r0 r1 r2 r3 r4 r5 hq
            go_wp2_with fail
            go_roundw
            case rel => exact ⟨j + 1, by have := HLT.out; omega, by go_num, H⟩
            case measure => have := HLT.out; simp [intOf]; omega
          · obtain rfl : j = u := by omega
            have hlt2 : ¬ (j : Int) < (j : Int) := by omega
            clear k1 k2 k3 k4 hlt hj
            by_cases hjM : j = M
            · subst hjM
              go_upto_region 18 with fail
              have HH := Lib.hid H
              clear H
              go_quiet (fail)
              have H := HH.out.drewN nq
              go_wp2_with fail
              go_ret
              exact ⟨rfl, H.bel⟩
            · have n1 : ¬ (j : Int) = (M : Int) := by omega
              have m1 : ((j : Int) == (M : Int)) = false := by rw [beq_eq_false_iff_ne]; omega
              have m2 : (j == M) = false := by rw [beq_eq_false_iff_ne]; omega
              have m3 : decide (j = M) = false := decide_eq_false (by omega)
              have m4 : decide ((j : Int) = (M : Int)) = false := decide_eq_false (by omega)
              by_cases hjL : j = L
              · subst hjL
                go_upto_region 18 with fail
                have HH := Lib.hid H
                clear H
                go_quiet (fail)
                have H := HH.out.drewN nq
                go_wp2_with fail
                go_ret
                exact ⟨rfl, H.bel⟩
              · have n2 : ¬ (j : Int) = (L : Int) := by omega
                have l1 : ((j : Int) == (L : Int)) = false := by rw [beq_eq_false_iff_ne]; omega
                have l2 : (j == L) = false := by rw [beq_eq_false_iff_ne]; omega
                have l3 : decide (j = L) = false := decide_eq_false (by omega)
                have l4 : decide ((j : Int) = (L : Int)) = false := decide_eq_false (by omega)
                have hne : p.es.getD j .zero0 ≠ F.getD j .zero0 := by
                  rcases HC4.out with h | h | h
                  · exact absurd h hjM
                  · exact absurd h hjL
                  · exact h
                obtain ⟨b, off, hA, hb, q0, q1, q2, q3, q4, q5⟩ := qevAt (H.get (evIt Ae p.es)) rfl (show j < p.es.length by rw [HM.out]; omega)
                obtain ⟨b', off', hB, hb', r0, r1, r2, r3, r4, r5⟩ := qevAt (H.get (evIt A1 F)) rfl (show j < F.length by rw [HL.out]; omega)
                subst hA
                subst hB
                have k7 : (j : Int) < (M : Int) := by omega
                have k7' : (j : Int) < (L : Int) := by omega
                have HC0 := HC3
                clear HC3 HC4 HC0
                generalize p.es.getD j .zero0 = e at *
                generalize F.getD j .zero0 = f at *
                have hq := ev_neq e.kind e.prod e.id e.body e.hep e.hno f.kind f.prod f.id f.body f.hep f.hno
                rw [evNe_of hne] at hq
                clear hne
                obtain ⟨e0, e1, e2, e3, e4, e5⟩ := e
                obtain ⟨f0, f1, f2, f3, f4, f5⟩ := f
                dsimp only at q0 q1 q2 q3 q4 q5 r0 r1 r2 r3 r4 r5 hq
                have HH := Lib.hid H
                clear hb hb' hjM hjL
                go_upto_region 18 with fail
                clear H
                go_quiet (fail)
                have H := HH.out.drewN nq
                clear HH q0 q1 q2 q3 q4 q5 r0 r1 r2 r3 r4 r5 hq
                go_wp2_with fail
                go_ret
                exact ⟨rfl, H.bel⟩

end Go.Proofs.Ytkolmpeghnkjkaa
