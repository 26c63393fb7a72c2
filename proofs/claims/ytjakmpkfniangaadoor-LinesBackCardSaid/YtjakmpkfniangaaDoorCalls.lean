/- lines.Calls at any acts. -/
import Derived.Test.YtjakmpkfniangaaDoorShow
namespace Go.Proofs.YtjakmpkfniangaaDoor
open Go.RowKit

set_option linter.unusedVariables false
open Go.Lib
/-- is an act a client's? -/
def asksR (vs : List Int) : Bool := vs.getD 0 0 == 2 && Ev.check ⟨vs.getD 5 0, vs.getD 6 0, vs.getD 7 0, vs.getD 8 0, vs.getD 9 0, vs.getD 10 0⟩ == 0
set_option maxRecDepth 100000 in
set_option maxHeartbeats 8000000 in
theorem asks_st {w0 w : World} {I : List It} (x0 x1 x2 x3 x4 x5 x6 x7 x8 x9 x10 : Int) (H : St w0 w I) :
    Calls Tryd.prog 18 #[.agg (iCells [x0, x1, x2, x3, x4, x5, x6, x7, x8, x9, x10])] w (fun ed w' => ed = .returned (.bool (asksR [x0, x1, x2, x3, x4, x5, x6, x7, x8, x9, x10])) ∧ St w0 w' I) := by
  have HF := Lib.hid (fun W b (hb : asksR [x0, x1, x2, x3, x4, x5, x6, x7, x8, x9, x10] = b) (h : St w0 W I) => (show (fun ed w' => ed = Ending.returned (.bool (asksR [x0, x1, x2, x3, x4, x5, x6, x7, x8, x9, x10])) ∧ St w0 w' I) (Ending.returned (.bool b)) W from ⟨by rw [hb], h⟩))
  generalize (fun ed w' => ed = Ending.returned (.bool (asksR [x0, x1, x2, x3, x4, x5, x6, x7, x8, x9, x10])) ∧ St w0 w' I) = POST at *
  obtain ⟨ck, hck⟩ : ∃ ck, Ev.check ⟨x5, x6, x7, x8, x9, x10⟩ = ck := ⟨_, rfl⟩
  have HR := Lib.hid (show asksR [x0, x1, x2, x3, x4, x5, x6, x7, x8, x9, x10] = (x0 == 2 && ck == 0) from by rw [← hck]; rfl)
  have CK := Lib.hid (fun W => check_any x5 x6 x7 x8 x9 x10 W)
  rw [hck] at CK
  clear hck
  go_enter Tryd.func18, Tryd.ntmps18
  go_upto_region 1 with (first | ((with_reducible refine here_box ?_); refine wpList_box_st H rfl 41 _ rfl _ rfl ?_; clear H; intro gb wx H) | (first | ((with_reducible refine here_load ?_); first | refine ldR H rfl _ _ rfl rfl (by kernel_rfl) ?_ | refine ldS H rfl _ _ rfl rfl (by rfl) ?_ | refine ldSG H (by rfl) _ _ rfl rfl (by rfl) ?_ | refine ldRG H (by rfl) _ _ rfl rfl (by kernel_rfl) ?_) | ((with_reducible refine here_store ?_); first | (refine stR H rfl _ _ _ rfl rfl rfl (by rfl) (by rfl) (by kernel_rfl) ?_; clear H; intro wx H) | (refine stS H rfl _ _ _ rfl rfl _ rfl (by rfl) (by rfl) (by rfl) ?_; clear H; intro wx H)) | ((with_reducible refine here_alloc ?_); first | (refine wpList_alloc_st H rfl 41 rfl _ act_zero ?_; clear H; intro gac1 wx H)) | ((with_reducible refine here_box ?_); refine wpList_box_st H rfl _ _ rfl _ rfl ?_; clear H; intro gb1 wx H)))
  (try simp only [Act.put])
  have hbk := H.blk gb
  have q5 : wx.cell? ⟨gb, 5, none⟩ = some (.int .i64 x5) := (hbk.cell 5).trans rfl
  have q6 : wx.cell? ⟨gb, 6, none⟩ = some (.int .i64 x6) := (hbk.cell 6).trans rfl
  have q7 : wx.cell? ⟨gb, 7, none⟩ = some (.int .i64 x7) := (hbk.cell 7).trans rfl
  have q8 : wx.cell? ⟨gb, 8, none⟩ = some (.int .i64 x8) := (hbk.cell 8).trans rfl
  have q9 : wx.cell? ⟨gb, 9, none⟩ = some (.int .i64 x9) := (hbk.cell 9).trans rfl
  have q10 : wx.cell? ⟨gb, 10, none⟩ = some (.int .i64 x10) := (hbk.cell 10).trans rfl
  clear hbk
  by_cases h0 : x0 = 2
  · have e0 : (x0 == 2) = true := by simpa using h0
    have HR2 := Lib.hid (show asksR [x0, x1, x2, x3, x4, x5, x6, x7, x8, x9, x10] = (ck == 0) from by rw [HR.out, e0]; rfl)
    go_wp2_with (first | (go_at_call 29; (with_reducible refine (CK.out _).mono ?_); rintro ed wy ⟨rfl, hb⟩; replace H := H.below hb) | (first | ((with_reducible refine here_load ?_); first | refine ldR H rfl _ _ rfl rfl (by kernel_rfl) ?_ | refine ldS H rfl _ _ rfl rfl (by rfl) ?_ | refine ldSG H (by rfl) _ _ rfl rfl (by rfl) ?_ | refine ldRG H (by rfl) _ _ rfl rfl (by kernel_rfl) ?_) | ((with_reducible refine here_store ?_); first | (refine stR H rfl _ _ _ rfl rfl rfl (by rfl) (by rfl) (by kernel_rfl) ?_; clear H; intro wx H) | (refine stS H rfl _ _ _ rfl rfl _ rfl (by rfl) (by rfl) (by rfl) ?_; clear H; intro wx H)) | ((with_reducible refine here_alloc ?_); first | (refine wpList_alloc_st H rfl 41 rfl _ act_zero ?_; clear H; intro gac2 wx H)) | ((with_reducible refine here_box ?_); refine wpList_box_st H rfl _ _ rfl _ rfl ?_; clear H; intro gb2 wx H)))
    exact HF.out _ _ HR2.out (H.subm _)
  · have e0 : (x0 == 2) = false := by simpa using h0
    have HR2 := Lib.hid (show asksR [x0, x1, x2, x3, x4, x5, x6, x7, x8, x9, x10] = false from by rw [HR.out, e0]; rfl)
    go_wp2_with (first | ((with_reducible refine here_load ?_); first | refine ldR H rfl _ _ rfl rfl (by kernel_rfl) ?_ | refine ldS H rfl _ _ rfl rfl (by rfl) ?_ | refine ldSG H (by rfl) _ _ rfl rfl (by rfl) ?_ | refine ldRG H (by rfl) _ _ rfl rfl (by kernel_rfl) ?_) | ((with_reducible refine here_store ?_); first | (refine stR H rfl _ _ _ rfl rfl rfl (by rfl) (by rfl) (by kernel_rfl) ?_; clear H; intro wx H) | (refine stS H rfl _ _ _ rfl rfl _ rfl (by rfl) (by rfl) (by rfl) ?_; clear H; intro wx H)) | ((with_reducible refine here_alloc ?_); first | (refine wpList_alloc_st H rfl 41 rfl _ act_zero ?_; clear H; intro gac3 wx H)) | ((with_reducible refine here_box ?_); refine wpList_box_st H rfl _ _ rfl _ rfl ?_; clear H; intro gb3 wx H))
    exact HF.out _ _ HR2.out (H.subm _)

/-- how many acts are clients' calls -/
def callsGo : List (List Int) → Int → Int × Int
  | [], n => (n, 0)
  | a :: al, n => if checkR a = 0 then callsGo al (if asksR a then n + 1 else n) else (0, checkR a)
theorem callsGo_drop (al : List (List Int)) (k : Nat) (hk : k < al.length) (m : Int) : callsGo (al.drop k) m = if checkR (al.getD k []) = 0 then callsGo (al.drop (k + 1)) (if asksR (al.getD k []) then m + 1 else m) else (0, checkR (al.getD k [])) := by
  rw [List.drop_eq_getElem_cons hk, List.getD, List.getElem?_eq_getElem hk]
  rfl
def CallsPost (w0 : World) (I : List It) (r : Int × Int) (ed : Ending) (w' : World) : Prop := ed = .returned (.tuple #[.int .i64 r.1, .int .i64 r.2]) ∧ St w0 w' I
set_option maxRecDepth 100000 in
set_option maxHeartbeats 8000000 in
theorem calls_st {w0 w : World} {I : List It} (A : Option Addr) (al : List (List Int)) (c : Nat) (hlc : al.length ≤ c) (hcap : al.length ≤ 1000000) (ha : Acts al) (H : St w0 w I) [hHas : Has I (actsIt A al)] :
    Calls Tryd.prog 10 #[.slice A al.length c] w (CallsPost w0 I (callsGo al 0)) := by
  have HF := Lib.hid (fun W r (hr : callsGo al 0 = r) (h : St w0 W I) => (show CallsPost w0 I (callsGo al 0) (.returned (.tuple #[.int .i64 r.1, .int .i64 r.2])) W from by rw [hr]; exact ⟨rfl, h⟩))
  generalize CallsPost w0 I (callsGo al 0) = POST at *
  obtain ⟨n, hn⟩ : ∃ n, al.length = n := ⟨_, rfl⟩
  have hI := H.get (actsIt A al)
  have H1 : St w0 w (actsIt A al :: I) := H.again (s := 11) (A := A) (n := al.length) (xs := actsCells al) (h := hHas) hI (fun g h => h)
  clear H hI
  have H := H1
  clear H1
  rw [hn] at hlc hcap ⊢
  have HN := Lib.hid hn
  have HA := Lib.hid ha
  clear hn ha
  go_enter Tryd.func10, Tryd.ntmps10
  go_upto_region 3 with (first | ((with_reducible refine here_load ?_); first | refine ldR H rfl _ _ rfl rfl (by kernel_rfl) ?_ | refine ldS H rfl _ _ rfl rfl (by rfl) ?_ | refine ldSG H (by rfl) _ _ rfl rfl (by rfl) ?_ | refine ldRG H (by rfl) _ _ rfl rfl (by kernel_rfl) ?_) | ((with_reducible refine here_store ?_); first | (refine stR H rfl _ _ _ rfl rfl rfl (by rfl) (by rfl) (by kernel_rfl) ?_; clear H; intro wx H) | (refine stS H rfl _ _ _ rfl rfl _ rfl (by rfl) (by rfl) (by rfl) ?_; clear H; intro wx H)) | ((with_reducible refine here_alloc ?_); first | (refine wpList_alloc_st H rfl 41 rfl _ act_zero ?_; clear H; intro gac1 wx H)) | ((with_reducible refine here_box ?_); refine wpList_box_st H rfl _ _ rfl _ rfl ?_; clear H; intro gb1 wx H))
  (try simp only [Act.put])
  go_loopw [4, 10] (fun s4 s10 wr => ∃ (k m : Nat), k ≤ n ∧ m ≤ k ∧ s10 = .int .i64 k ∧ s4 = .int .i64 m ∧ Hid (callsGo al 0 = callsGo (al.drop k) m) ∧ St w0 wr (actsIt A al :: I)) (fun _ s10 _ => n - (RowKit.intOf s10).toNat)
  case atStart => exact ⟨0, 0, by omega, by omega, rfl, rfl, Lib.hid rfl, H⟩
  case round =>
    clear H
    obtain ⟨k, m, hk, hm, rfl, rfl, hs, H⟩ := hrel
    have k0 : (0 : Int) ≤ (k : Int) := by omega
    have wk : IntKind.i64.wrap ((k : Int) + 1) = (k : Int) + 1 := IntWalk.i64_in _ (by omega)
    have wm : IntKind.i64.wrap ((m : Int) + 1) = (m : Int) + 1 := IntWalk.i64_in _ (by omega)
    by_cases hlt : k < n
    · have k1 : (k : Int) < (n : Int) := by omega
      have hkl : k < al.length := by rw [HN.out]; exact hlt
      obtain ⟨h11, hi64⟩ := HA.out.at_ hkl
      obtain ⟨x0, x1, x2, x3, x4, x5, x6, x7, x8, x9, x10, hx⟩ := iCells_11 h11
      obtain ⟨b8, o8, hA8, hb8, q0, q1, q2, q3, q4, q5, q6, q7, q8, q9, q10⟩ := actsAt (H.get (actsIt A al)) rfl hkl HA.out hx
      subst hA8
      have hgo := callsGo_drop al k hkl m
      rw [hx] at h11 hgo
      rw [← hs.out] at hgo
      obtain ⟨ck, hck⟩ : ∃ ck, checkR [x0, x1, x2, x3, x4, x5, x6, x7, x8, x9, x10] = ck := ⟨_, rfl⟩
      have CC := Lib.hid (fun W J (H : St w0 W J) => lcheck_st (w0 := w0) (w := W) (I := J) [x0, x1, x2, x3, x4, x5, x6, x7, x8, x9, x10] h11 H)
      have CA := Lib.hid (fun W J (H : St w0 W J) => asks_st (w0 := w0) (w := W) (I := J) x0 x1 x2 x3 x4 x5 x6 x7 x8 x9 x10 H)
      obtain ⟨ba, hba⟩ : ∃ ba, asksR [x0, x1, x2, x3, x4, x5, x6, x7, x8, x9, x10] = ba := ⟨_, rfl⟩
      rw [hck] at CC hgo
      rw [hba] at CA hgo
      have HGO := Lib.hid hgo
      have HLT := Lib.hid hlt
      have HM := Lib.hid hm
      clear hgo hi64 h11 hx hkl hlt hb8 hk hm hck hba
      go_upto_region 5 with (first | ((with_reducible refine here_alloc ?_); refine wpList_alloc_st H rfl 41 rfl _ act_zero ?_; clear H; intro g7 wx H) | (first | ((with_reducible refine here_load ?_); first | refine ldR H rfl _ _ rfl rfl (by kernel_rfl) ?_ | refine ldS H rfl _ _ rfl rfl (by rfl) ?_ | refine ldSG H (by rfl) _ _ rfl rfl (by rfl) ?_ | refine ldRG H (by rfl) _ _ rfl rfl (by kernel_rfl) ?_) | ((with_reducible refine here_store ?_); first | (refine stR H rfl _ _ _ rfl rfl rfl (by rfl) (by rfl) (by kernel_rfl) ?_; clear H; intro wx H) | (refine stS H rfl _ _ _ rfl rfl _ rfl (by rfl) (by rfl) (by rfl) ?_; clear H; intro wx H)) | ((with_reducible refine here_alloc ?_); first | (refine wpList_alloc_st H rfl 41 rfl _ act_zero ?_; clear H; intro gac2 wx H)) | ((with_reducible refine here_box ?_); refine wpList_box_st H rfl _ _ rfl _ rfl ?_; clear H; intro gb2 wx H)))
      (try simp only [Act.put])
      replace H : St w0 wx (.bl g7 41 (iCells [x0, x1, x2, x3, x4, x5, x6, x7, x8, x9, x10]) :: actsIt (some ⟨b8, o8, none⟩) al :: I) := H
      go_upto_region 6 with (first | (go_at_call 13; (with_reducible refine (CC.out _ _ H).mono ?_); clear H; rintro ed wy ⟨rfl, H⟩) | (first | ((with_reducible refine here_load ?_); first | refine ldR H rfl _ _ rfl rfl (by kernel_rfl) ?_ | refine ldS H rfl _ _ rfl rfl (by rfl) ?_ | refine ldSG H (by rfl) _ _ rfl rfl (by rfl) ?_ | refine ldRG H (by rfl) _ _ rfl rfl (by kernel_rfl) ?_) | ((with_reducible refine here_store ?_); first | (refine stR H rfl _ _ _ rfl rfl rfl (by rfl) (by rfl) (by kernel_rfl) ?_; clear H; intro wx H) | (refine stS H rfl _ _ _ rfl rfl _ rfl (by rfl) (by rfl) (by rfl) ?_; clear H; intro wx H)) | ((with_reducible refine here_alloc ?_); first | (refine wpList_alloc_st H rfl 41 rfl _ act_zero ?_; clear H; intro gac3 wx H)) | ((with_reducible refine here_box ?_); refine wpList_box_st H rfl _ _ rfl _ rfl ?_; clear H; intro gb3 wx H)))
      (try simp only [Act.put])
      by_cases hc0 : ck = 0
      · subst hc0
        cases ba
        · have HGG := Lib.hid (show callsGo al 0 = callsGo (al.drop (k + 1)) (m : Nat) from by rw [HGO.out, if_pos rfl]; rfl)
          go_wp2_with (first | (go_at_call 18; (with_reducible refine (CA.out _ _ H).mono ?_); clear H; rintro ed wz ⟨rfl, H⟩) | (first | ((with_reducible refine here_load ?_); first | refine ldR H rfl _ _ rfl rfl (by kernel_rfl) ?_ | refine ldS H rfl _ _ rfl rfl (by rfl) ?_ | refine ldSG H (by rfl) _ _ rfl rfl (by rfl) ?_ | refine ldRG H (by rfl) _ _ rfl rfl (by kernel_rfl) ?_) | ((with_reducible refine here_store ?_); first | (refine stR H rfl _ _ _ rfl rfl rfl (by rfl) (by rfl) (by kernel_rfl) ?_; clear H; intro wx H) | (refine stS H rfl _ _ _ rfl rfl _ rfl (by rfl) (by rfl) (by rfl) ?_; clear H; intro wx H)) | ((with_reducible refine here_alloc ?_); first | (refine wpList_alloc_st H rfl 41 rfl _ act_zero ?_; clear H; intro gac4 wx H)) | ((with_reducible refine here_box ?_); refine wpList_box_st H rfl _ _ rfl _ rfl ?_; clear H; intro gb4 wx H)))
          go_roundw
          case rel => exact ⟨k + 1, m, by have := HLT.out; omega, by have := HM.out; omega, by go_num, rfl, HGG, H.subm _⟩
          case measure => have := HLT.out; simp [RowKit.intOf] <;> omega
        · have HGG := Lib.hid (show callsGo al 0 = callsGo (al.drop (k + 1)) ((m + 1 : Nat) : Int) from by rw [HGO.out, if_pos rfl]; rfl)
          go_wp2_with (first | (go_at_call 18; (with_reducible refine (CA.out _ _ H).mono ?_); clear H; rintro ed wz ⟨rfl, H⟩) | (first | ((with_reducible refine here_load ?_); first | refine ldR H rfl _ _ rfl rfl (by kernel_rfl) ?_ | refine ldS H rfl _ _ rfl rfl (by rfl) ?_ | refine ldSG H (by rfl) _ _ rfl rfl (by rfl) ?_ | refine ldRG H (by rfl) _ _ rfl rfl (by kernel_rfl) ?_) | ((with_reducible refine here_store ?_); first | (refine stR H rfl _ _ _ rfl rfl rfl (by rfl) (by rfl) (by kernel_rfl) ?_; clear H; intro wx H) | (refine stS H rfl _ _ _ rfl rfl _ rfl (by rfl) (by rfl) (by rfl) ?_; clear H; intro wx H)) | ((with_reducible refine here_alloc ?_); first | (refine wpList_alloc_st H rfl 41 rfl _ act_zero ?_; clear H; intro gac4 wx H)) | ((with_reducible refine here_box ?_); refine wpList_box_st H rfl _ _ rfl _ rfl ?_; clear H; intro gb4 wx H)))
          go_roundw
          case rel => exact ⟨k + 1, m + 1, by have := HLT.out; omega, by have := HM.out; omega, by go_num, by go_num, HGG, H.subm _⟩
          case measure => have := HLT.out; simp [RowKit.intOf] <;> omega
      · have hcb : (ck == 0) = false := by simpa using hc0
        have HGG := Lib.hid (show callsGo al 0 = (0, ck) from by rw [HGO.out, if_neg hc0])
        go_wp2_with (first | ((with_reducible refine here_load ?_); first | refine ldR H rfl _ _ rfl rfl (by kernel_rfl) ?_ | refine ldS H rfl _ _ rfl rfl (by rfl) ?_ | refine ldSG H (by rfl) _ _ rfl rfl (by rfl) ?_ | refine ldRG H (by rfl) _ _ rfl rfl (by kernel_rfl) ?_) | ((with_reducible refine here_store ?_); first | (refine stR H rfl _ _ _ rfl rfl rfl (by rfl) (by rfl) (by kernel_rfl) ?_; clear H; intro wx H) | (refine stS H rfl _ _ _ rfl rfl _ rfl (by rfl) (by rfl) (by rfl) ?_; clear H; intro wx H)) | ((with_reducible refine here_alloc ?_); first | (refine wpList_alloc_st H rfl 41 rfl _ act_zero ?_; clear H; intro gac5 wx H)) | ((with_reducible refine here_box ?_); refine wpList_box_st H rfl _ _ rfl _ rfl ?_; clear H; intro gb5 wx H))
        exact HF.out _ _ HGG.out (H.subm _)
    · obtain rfl : k = n := by omega
      have k1 : ¬ (k : Int) < (k : Int) := by omega
      have HGG := Lib.hid (show callsGo al 0 = ((m : Int), 0) from by rw [hs.out, List.drop_of_length_le (Nat.le_of_eq HN.out)]; rfl)
      clear hlt hk hm
      go_wp2_with (first | ((with_reducible refine here_load ?_); first | refine ldR H rfl _ _ rfl rfl (by kernel_rfl) ?_ | refine ldS H rfl _ _ rfl rfl (by rfl) ?_ | refine ldSG H (by rfl) _ _ rfl rfl (by rfl) ?_ | refine ldRG H (by rfl) _ _ rfl rfl (by kernel_rfl) ?_) | ((with_reducible refine here_store ?_); first | (refine stR H rfl _ _ _ rfl rfl rfl (by rfl) (by rfl) (by kernel_rfl) ?_; clear H; intro wx H) | (refine stS H rfl _ _ _ rfl rfl _ rfl (by rfl) (by rfl) (by rfl) ?_; clear H; intro wx H)) | ((with_reducible refine here_alloc ?_); first | (refine wpList_alloc_st H rfl 41 rfl _ act_zero ?_; clear H; intro gac6 wx H)) | ((with_reducible refine here_box ?_); refine wpList_box_st H rfl _ _ rfl _ rfl ?_; clear H; intro gb6 wx H))
      exact HF.out _ _ HGG.out (H.subm _)


end Go.Proofs.YtjakmpkfniangaaDoor
