/- lines.kind at any word. -/
import Derived.Test.YtjakmpkfniangaaDoorLine
namespace Go.Proofs.YtjakmpkfniangaaDoor
open Go.RowKit

set_option linter.unusedVariables false
open Go.Lib
/-- an act of a kind and of an event's kind, nothing else in it -/
def bareL (k e : Int) : List Int := [k, 0, 0, 0, 0, e, 0, 0, 0, 0, 0]
/-- is it the i-th form's word? -/
def hit (word : ByteArray) (i : Nat) : Bool := (formR ((i / 4 : Nat) + 1) ((i % 4 : Nat))).2.2 && decide ((formR ((i / 4 : Nat) + 1) ((i % 4 : Nat))).1 = word) && (decide (i / 4 = 1) || decide (i % 4 = 0))
/-- the act that a word begins -/
def kindR (word : ByteArray) : List Int :=
  match (List.range 40).find? (hit word) with
  | some i => bareL ((i / 4 : Nat) + 1) ((i % 4 : Nat))
  | none => bareL 0 0
theorem kindR_hit {word : ByteArray} {i : Nat} (hi : i < 40) (h : hit word i = true) (h0 : ∀ t, t < i → hit word t = false) : kindR word = bareL ((i / 4 : Nat) + 1) ((i % 4 : Nat)) := by
  unfold kindR
  rw [List.find?_range_eq_some.2 ⟨h, List.mem_range.2 hi, fun t ht => by rw [h0 t ht]; rfl⟩]
theorem kindR_none {word : ByteArray} (h0 : ∀ t, t < 40 → hit word t = false) : kindR word = bareL 0 0 := by
  unfold kindR
  rw [List.find?_range_eq_none.2 (fun t ht => by rw [h0 t ht]; rfl)]
theorem hit_at (word : ByteArray) (j m : Nat) (hm : m < 4) : hit word (4 * j + m) = ((formR ((j : Int) + 1) m).2.2 && decide ((formR ((j : Int) + 1) m).1 = word) && (decide (j = 1) || decide (m = 0))) := by
  unfold hit
  rw [show (4 * j + m) / 4 = j by omega, show (4 * j + m) % 4 = m by omega]
theorem toList_inj {a b : ByteArray} : a.toList = b.toList ↔ a = b := by
  rw [ByteArray.toList_eq, ByteArray.toList_eq]
  constructor
  · intro h
    cases a
    cases b
    exact congrArg ByteArray.mk (Array.toList_inj.1 h)
  · rintro rfl
    rfl
theorem kindR_at {word : ByteArray} {j m : Nat} (hj : j < 10) (hm : m < 4) (h : hit word (4 * j + m) = true) (h0 : ∀ t, t < 4 * j + m → hit word t = false) : kindR word = bareL ((j : Int) + 1) m := by
  rw [kindR_hit (by omega) h h0, show (4 * j + m) / 4 = j by omega, show (4 * j + m) % 4 = m by omega]
set_option maxRecDepth 100000 in
set_option maxHeartbeats 8000000 in
theorem kind_st {w0 w : World} {I : List It} (word : ByteArray) (H : St w0 w I) :
    Calls Tryd.prog 23 #[.string word] w (fun ed w' => ed = .returned (.agg (iCells (kindR word))) ∧ St w0 w' I) := by
  have HF := Lib.hid (fun W c (hc : kindR word = c) (h : St w0 W I) => (show (fun ed w' => ed = Ending.returned (.agg (iCells (kindR word))) ∧ St w0 w' I) (Ending.returned (.agg (iCells c))) W from ⟨by rw [hc], h⟩))
  generalize (fun ed w' => ed = Ending.returned (.agg (iCells (kindR word))) ∧ St w0 w' I) = POST at *
  have CF := Lib.hid (fun W J g (vs : List Int) (hl : vs.length = 11) wd ss ok n hr (hn : ss.length = n) (H : St w0 W J) (hm : HasB J g 41 (iCells vs)) => form_i (hm := hm) (w0 := w0) (w := W) (I := J) g vs hl wd ss ok n hr hn H)
  go_enter Tryd.func23, Tryd.ntmps23
  go_upto_region 2 with (first | ((with_reducible refine here_alloc ?_); refine wpList_alloc_st H rfl 41 rfl _ act_zero ?_; clear H; intro g2 wx H) | (first | ((with_reducible refine here_load ?_); first | refine ldR H rfl _ _ rfl rfl (by kernel_rfl) ?_ | refine ldS H rfl _ _ rfl rfl (by rfl) ?_ | refine ldSG H (by rfl) _ _ rfl rfl (by rfl) ?_ | refine ldRG H (by rfl) _ _ rfl rfl (by kernel_rfl) ?_) | ((with_reducible refine here_store ?_); first | (refine stR H rfl _ _ _ rfl rfl rfl (by rfl) (by rfl) (by kernel_rfl) ?_; clear H; intro wx H) | (refine stS H rfl _ _ _ rfl rfl _ rfl (by rfl) (by rfl) (by rfl) ?_; clear H; intro wx H)) | ((with_reducible refine here_alloc ?_); first | (refine wpList_alloc_st H rfl 41 rfl _ act_zero ?_; clear H; intro gac1 wx H) | (refine wpList_alloc_st H rfl 71 rfl _ slot_zero ?_; clear H; intro gsl1 wx H)) | ((with_reducible refine here_box ?_); refine wpList_box_st H rfl _ _ rfl _ rfl ?_; clear H; intro gb1 wx H)))
  (try simp only [Act.put])
  replace H : St w0 wx (.bl g2 41 (iCells (bareL 0 0)) :: I) := H
  go_loopw [3] (fun s3 wr => ∃ j : Nat, j ≤ 10 ∧ s3 = .int .i64 ((j : Int) + 1) ∧ Hid (∀ t, t < 4 * j → hit word t = false) ∧ St w0 wr (.bl g2 41 (iCells (bareL 0 0)) :: I)) (fun s3 _ => 11 - (RowKit.intOf s3).toNat)
  case atStart => exact ⟨0, by omega, rfl, Lib.hid (fun t ht => by omega), H⟩
  case round =>
    clear H
    obtain ⟨j, hj, rfl, h0, H⟩ := hrel
    have wj : IntKind.i64.wrap ((j : Int) + 1 + 1) = (j : Int) + 1 + 1 := IntWalk.i64_in _ (by omega)
    by_cases hlt : j < 10
    · have j1 : (j : Int) + 1 ≤ 10 := by omega
      have HLT := Lib.hid hlt
      clear hlt hj
      go_upto_region 5 with (first | ((with_reducible refine here_load ?_); first | refine ldR H rfl _ _ rfl rfl (by kernel_rfl) ?_ | refine ldS H rfl _ _ rfl rfl (by rfl) ?_ | refine ldSG H (by rfl) _ _ rfl rfl (by rfl) ?_ | refine ldRG H (by rfl) _ _ rfl rfl (by kernel_rfl) ?_) | ((with_reducible refine here_store ?_); first | (refine stR H rfl _ _ _ rfl rfl rfl (by rfl) (by rfl) (by kernel_rfl) ?_; clear H; intro wx H) | (refine stS H rfl _ _ _ rfl rfl _ rfl (by rfl) (by rfl) (by rfl) ?_; clear H; intro wx H)) | ((with_reducible refine here_alloc ?_); first | (refine wpList_alloc_st H rfl 41 rfl _ act_zero ?_; clear H; intro gac2 wx H) | (refine wpList_alloc_st H rfl 71 rfl _ slot_zero ?_; clear H; intro gsl2 wx H)) | ((with_reducible refine here_box ?_); refine wpList_box_st H rfl _ _ rfl _ rfl ?_; clear H; intro gb2 wx H))
      go_loopw [4] (fun s4 wr => ∃ m : Nat, m ≤ 4 ∧ s4 = .int .i64 (m : Int) ∧ Hid (∀ t, t < 4 * j + m → hit word t = false) ∧ St w0 wr (.bl g2 41 (iCells (bareL 0 0)) :: I)) (fun s4 _ => 4 - (RowKit.intOf s4).toNat)
      case atStart => exact ⟨0, by omega, rfl, h0, H⟩
      case round =>
        clear H h0
        obtain ⟨m, hm, rfl, h0, H⟩ := hrel
        have wm : IntKind.i64.wrap ((m : Int) + 1) = (m : Int) + 1 := IntWalk.i64_in _ (by omega)
        by_cases hmt : m < 4
        · have m1 : (m : Int) ≤ 3 := by omega
          have HMT := Lib.hid hmt
          obtain ⟨wd, ss, ok, hr⟩ : ∃ wd ss ok, formR ((j : Int) + 1) m = (wd, ss, ok) := ⟨_, _, _, rfl⟩
          obtain ⟨n, hn⟩ : ∃ n, ss.length = n := ⟨_, rfl⟩
          have HH := hit_at word j m hmt
          rw [hr] at HH
          dsimp only at HH
          have HR := Lib.hid (show formR ((bareL ((j : Int) + 1) m).getD 0 0) ((bareL ((j : Int) + 1) m).getD 5 0) = (wd, ss, ok) from hr)
          have HN := Lib.hid hn
          clear hmt hm hr hn
          go_upto_region 8 with (first | ((with_reducible refine here_alloc ?_); refine wpList_alloc_st H rfl 41 rfl _ act_zero ?_; clear H; intro g5 wx H) | (first | ((with_reducible refine here_load ?_); first | refine ldR H rfl _ _ rfl rfl (by kernel_rfl) ?_ | refine ldS H rfl _ _ rfl rfl (by rfl) ?_ | refine ldSG H (by rfl) _ _ rfl rfl (by rfl) ?_ | refine ldRG H (by rfl) _ _ rfl rfl (by kernel_rfl) ?_) | ((with_reducible refine here_store ?_); first | (refine stR H rfl _ _ _ rfl rfl rfl (by rfl) (by rfl) (by kernel_rfl) ?_; clear H; intro wx H) | (refine stS H rfl _ _ _ rfl rfl _ rfl (by rfl) (by rfl) (by rfl) ?_; clear H; intro wx H)) | ((with_reducible refine here_alloc ?_); first | (refine wpList_alloc_st H rfl 41 rfl _ act_zero ?_; clear H; intro gac3 wx H) | (refine wpList_alloc_st H rfl 71 rfl _ slot_zero ?_; clear H; intro gsl3 wx H)) | ((with_reducible refine here_box ?_); refine wpList_box_st H rfl _ _ rfl _ rfl ?_; clear H; intro gb3 wx H)))
          (try simp only [Act.put])
          replace H : St w0 wx (.bl g5 41 (iCells (bareL ((j : Int) + 1) m)) :: .bl g2 41 (iCells (bareL 0 0)) :: I) := H
          go_upto_region 9 with (first | (go_at_call 24; (with_reducible refine (CF.out _ _ g5 (bareL ((j : Int) + 1) m) rfl wd ss ok n HR.out HN.out H inferInstance).mono ?_); clear H; rintro ed wy ⟨A, rfl, H⟩) | (first | ((with_reducible refine here_load ?_); first | refine ldR H rfl _ _ rfl rfl (by kernel_rfl) ?_ | refine ldS H rfl _ _ rfl rfl (by rfl) ?_ | refine ldSG H (by rfl) _ _ rfl rfl (by rfl) ?_ | refine ldRG H (by rfl) _ _ rfl rfl (by kernel_rfl) ?_) | ((with_reducible refine here_store ?_); first | (refine stR H rfl _ _ _ rfl rfl rfl (by rfl) (by rfl) (by kernel_rfl) ?_; clear H; intro wx H) | (refine stS H rfl _ _ _ rfl rfl _ rfl (by rfl) (by rfl) (by rfl) ?_; clear H; intro wx H)) | ((with_reducible refine here_alloc ?_); first | (refine wpList_alloc_st H rfl 41 rfl _ act_zero ?_; clear H; intro gac4 wx H) | (refine wpList_alloc_st H rfl 71 rfl _ slot_zero ?_; clear H; intro gsl4 wx H)) | ((with_reducible refine here_box ?_); refine wpList_box_st H rfl _ _ rfl _ rfl ?_; clear H; intro gb4 wx H)))
          (try simp only [Act.put])
          have HNO := Lib.hid (fun (h : hit word (4 * j + m) = false) => (show Hid (∀ t, t < 4 * j + (m + 1) → hit word t = false) from Lib.hid (fun t ht => by
            by_cases htk : t < 4 * j + m
            · exact h0.out t htk
            · obtain rfl : t = 4 * j + m := by omega
              exact h)))
          cases ok
          · have HHV : hit word (4 * j + m) = false := HH
            clear HH
            go_wp2_with (first | ((with_reducible refine here_load ?_); first | refine ldR H rfl _ _ rfl rfl (by kernel_rfl) ?_ | refine ldS H rfl _ _ rfl rfl (by rfl) ?_ | refine ldSG H (by rfl) _ _ rfl rfl (by rfl) ?_ | refine ldRG H (by rfl) _ _ rfl rfl (by kernel_rfl) ?_) | ((with_reducible refine here_store ?_); first | (refine stR H rfl _ _ _ rfl rfl rfl (by rfl) (by rfl) (by kernel_rfl) ?_; clear H; intro wx H) | (refine stS H rfl _ _ _ rfl rfl _ rfl (by rfl) (by rfl) (by rfl) ?_; clear H; intro wx H)) | ((with_reducible refine here_alloc ?_); first | (refine wpList_alloc_st H rfl 41 rfl _ act_zero ?_; clear H; intro gac7 wx H) | (refine wpList_alloc_st H rfl 71 rfl _ slot_zero ?_; clear H; intro gsl7 wx H)) | ((with_reducible refine here_box ?_); refine wpList_box_st H rfl _ _ rfl _ rfl ?_; clear H; intro gb7 wx H))
            go_roundw
            case rel => exact ⟨m + 1, by have := HMT.out; omega, by go_num, HNO.out HHV, H.subm _⟩
            case measure => have := HMT.out; simp [RowKit.intOf] <;> omega
          · by_cases hw : wd.toList = word.toList
            · have hw2 := toList_inj.1 hw
              by_cases hj1 : j = 1
              · have e1 : (j : Int) + 1 = 2 := by omega
                have e1b : ((j : Int) + 1 == 2) = true := by simpa using e1
                have HHV : hit word (4 * j + m) = true := by rw [HH]; simp [hw2, hj1]
                clear HH hw2 hj1
                have HK := Lib.hid (kindR_at HLT.out HMT.out HHV h0.out)
                go_wp2_with (first | ((with_reducible refine here_load ?_); first | refine ldR H rfl _ _ rfl rfl (by kernel_rfl) ?_ | refine ldS H rfl _ _ rfl rfl (by rfl) ?_ | refine ldSG H (by rfl) _ _ rfl rfl (by rfl) ?_ | refine ldRG H (by rfl) _ _ rfl rfl (by kernel_rfl) ?_) | ((with_reducible refine here_store ?_); first | (refine stR H rfl _ _ _ rfl rfl rfl (by rfl) (by rfl) (by kernel_rfl) ?_; clear H; intro wx H) | (refine stS H rfl _ _ _ rfl rfl _ rfl (by rfl) (by rfl) (by rfl) ?_; clear H; intro wx H)) | ((with_reducible refine here_alloc ?_); first | (refine wpList_alloc_st H rfl 41 rfl _ act_zero ?_; clear H; intro gac7 wx H) | (refine wpList_alloc_st H rfl 71 rfl _ slot_zero ?_; clear H; intro gsl7 wx H)) | ((with_reducible refine here_box ?_); refine wpList_box_st H rfl _ _ rfl _ rfl ?_; clear H; intro gb7 wx H))
                replace H : St w0 wx (.bl g5 41 (iCells (bareL ((j : Int) + 1) m)) :: .bl g2 41 (iCells (bareL ((j : Int) + 1) m)) :: slIt g5 A ss :: I) := H.subm _
                have l4 : (loadVar 41 ⟨g2, 0, none⟩).run Tryd.prog wx = .ok (.agg (iCells (bareL ((j : Int) + 1) m))) wx := H.loadRow 41 g2 row_Act (P := Tryd.prog) (by kernel_rfl)
                exact bodyPost_ret (v := .agg (iCells (bareL ((j : Int) + 1) m))) (by simp [results, Tryd.results23, asAddr, Act.put, l4]) rfl (HF.out _ _ HK.out (H.subm _))
              · have e1 : ¬ (j : Int) + 1 = 2 := by omega
                have e1b : ((j : Int) + 1 == 2) = false := by simpa using e1
                by_cases hm0 : m = 0
                · have e2 : (m : Int) = 0 := by omega
                  have e2b : ((m : Int) == 0) = true := by simpa using e2
                  have HHV : hit word (4 * j + m) = true := by rw [HH]; simp [hw2, hm0]
                  clear HH hj1 hw2 hm0
                  have HK := Lib.hid (kindR_at HLT.out HMT.out HHV h0.out)
                  go_wp2_with (first | ((with_reducible refine here_load ?_); first | refine ldR H rfl _ _ rfl rfl (by kernel_rfl) ?_ | refine ldS H rfl _ _ rfl rfl (by rfl) ?_ | refine ldSG H (by rfl) _ _ rfl rfl (by rfl) ?_ | refine ldRG H (by rfl) _ _ rfl rfl (by kernel_rfl) ?_) | ((with_reducible refine here_store ?_); first | (refine stR H rfl _ _ _ rfl rfl rfl (by rfl) (by rfl) (by kernel_rfl) ?_; clear H; intro wx H) | (refine stS H rfl _ _ _ rfl rfl _ rfl (by rfl) (by rfl) (by rfl) ?_; clear H; intro wx H)) | ((with_reducible refine here_alloc ?_); first | (refine wpList_alloc_st H rfl 41 rfl _ act_zero ?_; clear H; intro gac7 wx H) | (refine wpList_alloc_st H rfl 71 rfl _ slot_zero ?_; clear H; intro gsl7 wx H)) | ((with_reducible refine here_box ?_); refine wpList_box_st H rfl _ _ rfl _ rfl ?_; clear H; intro gb7 wx H))
                  replace H : St w0 wx (.bl g5 41 (iCells (bareL ((j : Int) + 1) m)) :: .bl g2 41 (iCells (bareL ((j : Int) + 1) m)) :: slIt g5 A ss :: I) := H.subm _
                  have l4 : (loadVar 41 ⟨g2, 0, none⟩).run Tryd.prog wx = .ok (.agg (iCells (bareL ((j : Int) + 1) m))) wx := H.loadRow 41 g2 row_Act (P := Tryd.prog) (by kernel_rfl)
                  exact bodyPost_ret (v := .agg (iCells (bareL ((j : Int) + 1) m))) (by simp [results, Tryd.results23, asAddr, Act.put, l4]) rfl (HF.out _ _ HK.out (H.subm _))
                · have e2 : ¬ (m : Int) = 0 := by omega
                  have e2b : ((m : Int) == 0) = false := by simpa using e2
                  have HHV : hit word (4 * j + m) = false := by rw [HH]; simp [hj1, hm0]
                  clear HH hj1 hm0 hw2
                  go_wp2_with (first | ((with_reducible refine here_load ?_); first | refine ldR H rfl _ _ rfl rfl (by kernel_rfl) ?_ | refine ldS H rfl _ _ rfl rfl (by rfl) ?_ | refine ldSG H (by rfl) _ _ rfl rfl (by rfl) ?_ | refine ldRG H (by rfl) _ _ rfl rfl (by kernel_rfl) ?_) | ((with_reducible refine here_store ?_); first | (refine stR H rfl _ _ _ rfl rfl rfl (by rfl) (by rfl) (by kernel_rfl) ?_; clear H; intro wx H) | (refine stS H rfl _ _ _ rfl rfl _ rfl (by rfl) (by rfl) (by rfl) ?_; clear H; intro wx H)) | ((with_reducible refine here_alloc ?_); first | (refine wpList_alloc_st H rfl 41 rfl _ act_zero ?_; clear H; intro gac7 wx H) | (refine wpList_alloc_st H rfl 71 rfl _ slot_zero ?_; clear H; intro gsl7 wx H)) | ((with_reducible refine here_box ?_); refine wpList_box_st H rfl _ _ rfl _ rfl ?_; clear H; intro gb7 wx H))
                  go_roundw
                  case rel => exact ⟨m + 1, by have := HMT.out; omega, by go_num, HNO.out HHV, H.subm _⟩
                  case measure => have := HMT.out; simp [RowKit.intOf] <;> omega
            · have HHV : hit word (4 * j + m) = false := by rw [HH]; simp [show ¬ wd = word from fun h => hw (by rw [h])]
              clear HH
              go_wp2_with (first | ((with_reducible refine here_load ?_); first | refine ldR H rfl _ _ rfl rfl (by kernel_rfl) ?_ | refine ldS H rfl _ _ rfl rfl (by rfl) ?_ | refine ldSG H (by rfl) _ _ rfl rfl (by rfl) ?_ | refine ldRG H (by rfl) _ _ rfl rfl (by kernel_rfl) ?_) | ((with_reducible refine here_store ?_); first | (refine stR H rfl _ _ _ rfl rfl rfl (by rfl) (by rfl) (by kernel_rfl) ?_; clear H; intro wx H) | (refine stS H rfl _ _ _ rfl rfl _ rfl (by rfl) (by rfl) (by rfl) ?_; clear H; intro wx H)) | ((with_reducible refine here_alloc ?_); first | (refine wpList_alloc_st H rfl 41 rfl _ act_zero ?_; clear H; intro gac7 wx H) | (refine wpList_alloc_st H rfl 71 rfl _ slot_zero ?_; clear H; intro gsl7 wx H)) | ((with_reducible refine here_box ?_); refine wpList_box_st H rfl _ _ rfl _ rfl ?_; clear H; intro gb7 wx H))
              go_roundw
              case rel => exact ⟨m + 1, by have := HMT.out; omega, by go_num, HNO.out HHV, H.subm _⟩
              case measure => have := HMT.out; simp [RowKit.intOf] <;> omega
        · obtain rfl : m = 4 := by omega
          have m1 : ¬ (4 : Int) ≤ 3 := by omega
          clear hmt hm
          go_wp2_with (first | ((with_reducible refine here_load ?_); first | refine ldR H rfl _ _ rfl rfl (by kernel_rfl) ?_ | refine ldS H rfl _ _ rfl rfl (by rfl) ?_ | refine ldSG H (by rfl) _ _ rfl rfl (by rfl) ?_ | refine ldRG H (by rfl) _ _ rfl rfl (by kernel_rfl) ?_) | ((with_reducible refine here_store ?_); first | (refine stR H rfl _ _ _ rfl rfl rfl (by rfl) (by rfl) (by kernel_rfl) ?_; clear H; intro wx H) | (refine stS H rfl _ _ _ rfl rfl _ rfl (by rfl) (by rfl) (by rfl) ?_; clear H; intro wx H)) | ((with_reducible refine here_alloc ?_); first | (refine wpList_alloc_st H rfl 41 rfl _ act_zero ?_; clear H; intro gac5 wx H) | (refine wpList_alloc_st H rfl 71 rfl _ slot_zero ?_; clear H; intro gsl5 wx H)) | ((with_reducible refine here_box ?_); refine wpList_box_st H rfl _ _ rfl _ rfl ?_; clear H; intro gb5 wx H))
          go_roundw
          case rel => exact ⟨j + 1, by have := HLT.out; omega, by go_num, h0, H.subm _⟩
          case measure => have := HLT.out; simp [RowKit.intOf] <;> omega
    · obtain rfl : j = 10 := by omega
      have j1 : ¬ ((10 : Nat) : Int) + 1 ≤ 10 := by omega
      clear hlt hj
      go_wp2_with (first | ((with_reducible refine here_load ?_); first | refine ldR H rfl _ _ rfl rfl (by kernel_rfl) ?_ | refine ldS H rfl _ _ rfl rfl (by rfl) ?_ | refine ldSG H (by rfl) _ _ rfl rfl (by rfl) ?_ | refine ldRG H (by rfl) _ _ rfl rfl (by kernel_rfl) ?_) | ((with_reducible refine here_store ?_); first | (refine stR H rfl _ _ _ rfl rfl rfl (by rfl) (by rfl) (by kernel_rfl) ?_; clear H; intro wx H) | (refine stS H rfl _ _ _ rfl rfl _ rfl (by rfl) (by rfl) (by rfl) ?_; clear H; intro wx H)) | ((with_reducible refine here_alloc ?_); first | (refine wpList_alloc_st H rfl 41 rfl _ act_zero ?_; clear H; intro gac6 wx H) | (refine wpList_alloc_st H rfl 71 rfl _ slot_zero ?_; clear H; intro gsl6 wx H)) | ((with_reducible refine here_box ?_); refine wpList_box_st H rfl _ _ rfl _ rfl ?_; clear H; intro gb6 wx H))
      replace H : St w0 wx (.bl g2 41 (iCells (bareL 0 0)) :: I) := H
      have l4 : (loadVar 41 ⟨g2, 0, none⟩).run Tryd.prog wx = .ok (.agg (iCells (bareL 0 0))) wx := H.loadRow 41 g2 row_Act (P := Tryd.prog) (by kernel_rfl)
      exact bodyPost_ret (v := .agg (iCells (bareL 0 0))) (by simp [results, Tryd.results23, asAddr, l4]) rfl (HF.out _ _ (kindR_none h0.out) (H.subm _))


end Go.Proofs.YtjakmpkfniangaaDoor
