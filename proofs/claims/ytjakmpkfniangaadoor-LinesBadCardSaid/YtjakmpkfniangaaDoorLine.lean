/- lines.line at any act. -/
import Derived.Test.YtjakmpkfniangaaDoorLck
import Derived.Test.YtjakmpkfniangaaDoorLib
import Derived.Lib.ItoaLen
namespace Go.Proofs.YtjakmpkfniangaaDoor
open Go.RowKit

set_option linter.unusedVariables false
open Go.Lib
/-- the line so far, and the numbers that still are to come -/
def lineAcc (vs : List Int) (acc : ByteArray) : List (Nat × Int) → ByteArray
  | [] => acc
  | s :: ss => lineAcc vs (acc ++ (⟨#[32]⟩ ++ ⟨(itoa (vs.getD s.1 0)).toArray⟩)) ss
theorem lineAcc_snoc (vs : List Int) (ss : List (Nat × Int)) (s : Nat × Int) (acc : ByteArray) : lineAcc vs acc (ss ++ [s]) = lineAcc vs acc ss ++ (⟨#[32]⟩ ++ ⟨(itoa (vs.getD s.1 0)).toArray⟩) := by
  induction ss generalizing acc with
  | nil => rfl
  | cons x ss ih => exact ih _
/-- the line of an act -/
def lineR (vs : List Int) : ByteArray := lineAcc vs (formR (vs.getD 0 0) (vs.getD 5 0)).1 (formR (vs.getD 0 0) (vs.getD 5 0)).2.1 ++ ⟨#[10]⟩
theorem add_str (a b : ByteArray) (h : a.size + b.size ≤ 9223372036854775807) (W : World) : (binOp .add 9 (.string a) (.string b)).run Tryd.prog W = .ok (.string (a ++ b)) W := by
  simp [go_sem]
  omega
section
variable {ops : Array Oper} {rest : List Oper} {o : Oper} {a : Act} {w : World} {Q : Exit → Act → World → Prop} {K : Act → World → Prop}
theorem here_sadd {d : Option Tmp} {x y : Operand} {t : TypeId} {p : String} {af : Array Edge} {gd : Option (Nat × Bool)} (h : wpList Tryd.prog ops Q (⟨d, .binOp .add 9 x y 9, t, p, af, gd⟩ :: rest) a w) : wpList Tryd.prog ops Q (⟨d, .binOp .add 9 x y 9, t, p, af, gd⟩ :: rest) a w := h
theorem wp_sadd (x y : Operand) (ho : o.op = .binOp .add 9 x y 9) (s1 s2 : ByteArray) (hx : a.eval x = .string s1) (hy : a.eval y = .string s2) (hs : s1.size + s2.size ≤ 9223372036854775807) (h : K (a.put o.dst (.string (s1 ++ s2))) w) : o.wp Tryd.prog a w K Q := by
  unfold Oper.wp execOp
  have h1 : (eqGuard .add 9 x y (.string s1) (.string s2)).run Tryd.prog w = .ok () w := by simp [eqGuard]
  simp only [ho, hx, hy, Sem.run_bind, h1, add_str s1 s2 hs w, Result.andThen_ok, Sem.run_pure]
  exact h
theorem wpList_sadd (hgd : o.guard = none) (x y : Operand) (ho : o.op = .binOp .add 9 x y 9) (s1 s2 : ByteArray) (hx : a.eval x = .string s1) (hy : a.eval y = .string s2) (hs : s1.size + s2.size ≤ 9223372036854775807) (h : wpList Tryd.prog ops Q rest (a.put o.dst (.string (s1 ++ s2))) w) : wpList Tryd.prog ops Q (o :: rest) a w :=
  wpList_plain hgd fun _ hK => wp_sadd x y ho s1 s2 hx hy hs (hK _ _ h)
end
theorem baSize (l : List UInt8) : (⟨l.toArray⟩ : ByteArray).size = l.length := by
  show l.toArray.size = l.length
  exact List.size_toArray
theorem one_size (c : UInt8) : (⟨#[c]⟩ : ByteArray).size = 1 := rfl
theorem sz1 (v : Int) (h : (itoa v).length ≤ 21) : (⟨#[32]⟩ : ByteArray).size + (⟨(itoa v).toArray⟩ : ByteArray).size ≤ 9223372036854775807 := by
  rw [one_size, baSize]
  omega
theorem sz2 (acc : ByteArray) (ha : acc.size ≤ 117) (v : Int) (h : (itoa v).length ≤ 21) : acc.size + (⟨#[32]⟩ ++ ⟨(itoa v).toArray⟩ : ByteArray).size ≤ 9223372036854775807 := by
  rw [ByteArray.size_append, one_size, baSize (itoa v)]
  omega
theorem sz3 (acc : ByteArray) (ha : acc.size ≤ 117) : acc.size + (⟨#[10]⟩ : ByteArray).size ≤ 9223372036854775807 := by
  rw [one_size]
  omega
theorem lineAcc_size (vs : List Int) (hi : ∀ v ∈ vs, -9223372036854775808 ≤ v ∧ v ≤ 9223372036854775807) (ss : List (Nat × Int)) (hs : ∀ s ∈ ss, s.1 < vs.length) (acc : ByteArray) : (lineAcc vs acc ss).size ≤ acc.size + 22 * ss.length := by
  induction ss generalizing acc with
  | nil => exact Nat.le_add_right _ _
  | cons x ss ih =>
    have h1 := ih (fun s h => hs s (List.mem_cons_of_mem _ h)) (acc ++ (⟨#[32]⟩ ++ ⟨(itoa (vs.getD x.1 0)).toArray⟩))
    have hx := hs x List.mem_cons_self
    have h2 := hi (vs.getD x.1 0) (by rw [List.getD, List.getElem?_eq_getElem hx]; exact List.getElem_mem _)
    have h3 := itoa_length_le _ h2.1 h2.2
    have h4 : (acc ++ (⟨#[32]⟩ ++ ⟨(itoa (vs.getD x.1 0)).toArray⟩) : ByteArray).size = acc.size + (1 + (itoa (vs.getD x.1 0)).length) := by
      rw [ByteArray.size_append, ByteArray.size_append, one_size, baSize (itoa _)]
    rw [h4] at h1
    show (lineAcc vs _ ss).size ≤ _
    simp only [List.length_cons]
    omega
theorem formR_wd (k e : Int) : (formR k e).1.size ≤ 7 := by
  unfold formR
  repeat (first | exact Nat.zero_le _ | (refine iteInd (P := fun r : ByteArray × List (Nat × Int) × Bool => r.1.size ≤ 7) _ (by decide) ?_))
/-- the act's numbers are ints -/
def I64s (vs : List Int) : Prop := ∀ v ∈ vs, -9223372036854775808 ≤ v ∧ v ≤ 9223372036854775807
set_option maxRecDepth 100000 in
set_option maxHeartbeats 8000000 in
theorem line_st {w0 w : World} {I : List It} (L : LibW w0) (vs : List Int) (hl : vs.length = 11) (hi : I64s vs) (H : St w0 w I) :
    Calls Tryd.prog 14 #[.agg (iCells vs)] w (fun ed w' => ed = .returned (.string (lineR vs)) ∧ St w0 w' I) := by
  have HL := Lib.hid hl
  have HI := Lib.hid hi
  have HLW := Lib.hid L
  have HF := Lib.hid (fun W c (hc : lineR vs = c) (h : St w0 W I) => (show (fun ed w' => ed = Ending.returned (.string (lineR vs)) ∧ St w0 w' I) (Ending.returned (.string c)) W from ⟨by rw [hc], h⟩))
  generalize (fun ed w' => ed = Ending.returned (.string (lineR vs)) ∧ St w0 w' I) = POST at *
  obtain ⟨wd, ss, ok, hr⟩ : ∃ wd ss ok, formR (vs.getD 0 0) (vs.getD 5 0) = (wd, ss, ok) := ⟨_, _, _, rfl⟩
  have hn5 := formR_len (vs.getD 0 0) (vs.getD 5 0)
  have hoff := formR_off (vs.getD 0 0) (vs.getD 5 0)
  have hwd := formR_wd (vs.getD 0 0) (vs.getD 5 0)
  rw [hr] at hn5 hoff hwd
  dsimp only at hn5 hoff hwd
  have HSZ := Lib.hid (fun k => show (lineAcc vs wd (ss.take k)).size ≤ 117 from by
    have h1 := lineAcc_size vs hi (ss.take k) (fun s h => by rw [hl]; exact hoff s (List.mem_of_mem_take h)) wd
    have h2 : (ss.take k).length ≤ 5 := by rw [List.length_take]; omega
    omega)
  have HIT := Lib.hid (fun v (h : v ∈ vs) => itoa_length_le v (hi v h).1 (hi v h).2)
  have HSW := Lib.hid hwd
  obtain ⟨n, hn⟩ : ∃ n, ss.length = n := ⟨_, rfl⟩
  rw [hn] at hn5
  have HN := Lib.hid hn
  have HOFF := Lib.hid hoff
  have HR := Lib.hid hr
  have CF := Lib.hid (fun W J g (H : St w0 W J) (hm : HasB J g 41 (iCells vs)) => form_i (hm := hm) (w0 := w0) (w := W) (I := J) g vs HL.out wd ss ok n HR.out HN.out H)
  have CI := Lib.hid (fun W J v (hv : v ∈ vs) (H : St w0 W J) => itoa_st HLW.out v (HI.out v hv).1 (HI.out v hv).2 H)
  clear hl hn hr hoff hi L hwd
  go_enter Tryd.func14, Tryd.ntmps14
  go_upto_region 2 with (first | (go_at_call 24; (with_reducible refine (CF.out _ _ gb H inferInstance).mono ?_); clear H; rintro ed wy ⟨A, rfl, H⟩) | ((with_reducible refine here_box ?_); refine wpList_box_st H rfl 41 _ rfl _ rfl ?_; clear H; intro gb wx H) | (first | ((with_reducible refine here_load ?_); first | refine ldR H rfl _ _ rfl rfl (by kernel_rfl) ?_ | refine ldS H rfl _ _ rfl rfl (by rfl) ?_ | refine ldSG H (by rfl) _ _ rfl rfl (by rfl) ?_ | refine ldRG H (by rfl) _ _ rfl rfl (by kernel_rfl) ?_) | ((with_reducible refine here_store ?_); first | (refine stR H rfl _ _ _ rfl rfl rfl (by rfl) (by rfl) (by kernel_rfl) ?_; clear H; intro wx H) | (refine stS H rfl _ _ _ rfl rfl _ rfl (by rfl) (by rfl) (by rfl) ?_; clear H; intro wx H)) | ((with_reducible refine here_alloc ?_); first | (refine wpList_alloc_st H rfl 41 rfl _ act_zero ?_; clear H; intro gac1 wx H) | (refine wpList_alloc_st H rfl 71 rfl _ slot_zero ?_; clear H; intro gsl1 wx H)) | ((with_reducible refine here_box ?_); refine wpList_box_st H rfl _ _ rfl _ rfl ?_; clear H; intro gb1 wx H)))
  (try simp only [Act.put])
  go_upto_region 3 with (first | ((with_reducible refine here_load ?_); first | refine ldR H rfl _ _ rfl rfl (by kernel_rfl) ?_ | refine ldS H rfl _ _ rfl rfl (by rfl) ?_ | refine ldSG H (by rfl) _ _ rfl rfl (by rfl) ?_ | refine ldRG H (by rfl) _ _ rfl rfl (by kernel_rfl) ?_) | ((with_reducible refine here_store ?_); first | (refine stR H rfl _ _ _ rfl rfl rfl (by rfl) (by rfl) (by kernel_rfl) ?_; clear H; intro wx H) | (refine stS H rfl _ _ _ rfl rfl _ rfl (by rfl) (by rfl) (by rfl) ?_; clear H; intro wx H)) | ((with_reducible refine here_alloc ?_); first | (refine wpList_alloc_st H rfl 41 rfl _ act_zero ?_; clear H; intro gac2 wx H) | (refine wpList_alloc_st H rfl 71 rfl _ slot_zero ?_; clear H; intro gsl2 wx H)) | ((with_reducible refine here_box ?_); refine wpList_box_st H rfl _ _ rfl _ rfl ?_; clear H; intro gb2 wx H))
  replace H : St w0 wy (.bl gb 41 (iCells vs) :: slIt gb A ss :: I) := H.subm _
  go_loopw [3, 15] (fun s3 s15 wr => ∃ k : Nat, k ≤ n ∧ s15 = .int .i64 k ∧ s3 = .string (lineAcc vs wd (ss.take k)) ∧ St w0 wr (.bl gb 41 (iCells vs) :: slIt gb A ss :: I)) (fun s3 s15 _ => n - (RowKit.intOf s15).toNat)
  case atStart => exact ⟨0, by omega, rfl, rfl, H⟩
  case round =>
    clear H
    obtain ⟨k, hk, rfl, rfl, H⟩ := hrel
    have k0 : (0 : Int) ≤ (k : Int) := by omega
    have wk : IntKind.i64.wrap ((k : Int) + 1) = (k : Int) + 1 := IntWalk.i64_in _ (by omega)
    by_cases hlt : k < n
    · have k1 : (k : Int) < (n : Int) := by omega
      have hjl : k < ss.length := by rw [HN.out]; exact hlt
      obtain ⟨b8, o8, hA8, hb8, q0, q1⟩ := slotAt (H.get (slIt gb A ss)) rfl hjl
      subst hA8
      obtain ⟨⟨off, most⟩, hs⟩ : ∃ s, ss.getD k (0, 0) = s := ⟨_, rfl⟩
      have hmem : ss.getD k (0, 0) ∈ ss := by
        rw [List.getD, List.getElem?_eq_getElem hjl]
        exact List.getElem_mem _
      have htk : ss.take (k + 1) = ss.take k ++ [(off, most)] := by
        rw [List.take_add_one, List.getElem?_eq_getElem hjl, ← hs]
        simp [List.getD, List.getElem?_eq_getElem hjl]
      rw [hs] at q0 q1 hmem
      have hoff := HOFF.out _ hmem
      dsimp only at q0 q1 hoff
      obtain ⟨v, hv⟩ : ∃ v, vs[off]? = some v := ⟨vs[off]'(by rw [HL.out]; exact hoff), List.getElem?_eq_getElem _⟩
      have hvd : vs.getD off 0 = v := by simp [List.getD, hv]
      have HVM := Lib.hid (show v ∈ vs from List.mem_of_getElem? hv)
      have HV := Lib.hid (iCells_at vs off v hv)
      have HNX := Lib.hid (show lineAcc vs wd (ss.take k) ++ (⟨#[32]⟩ ++ ⟨(itoa v).toArray⟩) = lineAcc vs wd (ss.take (k + 1)) from by rw [htk, lineAcc_snoc, hvd])
      have HLT := Lib.hid hlt
      clear hs hmem hoff hv hvd hb8 hlt hk hjl htk
      obtain ⟨acc, hacc⟩ : ∃ acc, lineAcc vs wd (ss.take k) = acc := ⟨_, rfl⟩
      rw [hacc] at HNX
      rw [hacc]
      have HQ := HSZ.out k
      rw [hacc] at HQ
      have A1 := Lib.hid (sz1 v (HIT.out v HVM.out))
      have A2 := Lib.hid (sz2 acc HQ v (HIT.out v HVM.out))
      clear HQ
      clear hacc
      go_wp2_with (first | ((with_reducible refine here_alloc ?_); refine wpList_alloc_st H rfl 71 rfl _ slot_zero ?_; clear H; intro g7 wx H) | (go_at_call 26; (with_reducible refine (CI.out _ _ v HVM.out H).mono ?_); clear H; rintro ed wz ⟨rfl, H⟩) | ((with_reducible refine here_load ?_); refine ldS (j := off) H rfl _ _ rfl rfl HV.out ?_) | ((with_reducible refine here_sadd ?_); refine wpList_sadd rfl _ _ rfl _ _ rfl rfl (by first | exact A1.out | exact A2.out) ?_) | (first | ((with_reducible refine here_load ?_); first | refine ldR H rfl _ _ rfl rfl (by kernel_rfl) ?_ | refine ldS H rfl _ _ rfl rfl (by rfl) ?_ | refine ldSG H (by rfl) _ _ rfl rfl (by rfl) ?_ | refine ldRG H (by rfl) _ _ rfl rfl (by kernel_rfl) ?_) | ((with_reducible refine here_store ?_); first | (refine stR H rfl _ _ _ rfl rfl rfl (by rfl) (by rfl) (by kernel_rfl) ?_; clear H; intro wx H) | (refine stS H rfl _ _ _ rfl rfl _ rfl (by rfl) (by rfl) (by rfl) ?_; clear H; intro wx H)) | ((with_reducible refine here_alloc ?_); first | (refine wpList_alloc_st H rfl 41 rfl _ act_zero ?_; clear H; intro gac3 wx H) | (refine wpList_alloc_st H rfl 71 rfl _ slot_zero ?_; clear H; intro gsl3 wx H)) | ((with_reducible refine here_box ?_); refine wpList_box_st H rfl _ _ rfl _ rfl ?_; clear H; intro gb3 wx H)))
      go_roundw
      case rel => exact ⟨k + 1, by have := HLT.out; omega, by go_num, by rw [HNX.out], H.subm _⟩
      case measure => have := HLT.out; simp [RowKit.intOf] <;> omega
    · obtain rfl : k = n := by omega
      have k1 : ¬ (k : Int) < (k : Int) := by omega
      have HTK := Lib.hid (show ss.take k = ss from List.take_of_length_le (Nat.le_of_eq HN.out))
      have HQ := HSZ.out k
      rw [HTK.out] at HQ
      have A3 := Lib.hid (sz3 _ HQ)
      clear HQ
      rw [HTK.out]
      clear hlt hk
      go_wp2_with (first | ((with_reducible refine here_sadd ?_); refine wpList_sadd rfl _ _ rfl _ _ rfl rfl A3.out ?_) | (first | ((with_reducible refine here_load ?_); first | refine ldR H rfl _ _ rfl rfl (by kernel_rfl) ?_ | refine ldS H rfl _ _ rfl rfl (by rfl) ?_ | refine ldSG H (by rfl) _ _ rfl rfl (by rfl) ?_ | refine ldRG H (by rfl) _ _ rfl rfl (by kernel_rfl) ?_) | ((with_reducible refine here_store ?_); first | (refine stR H rfl _ _ _ rfl rfl rfl (by rfl) (by rfl) (by kernel_rfl) ?_; clear H; intro wx H) | (refine stS H rfl _ _ _ rfl rfl _ rfl (by rfl) (by rfl) (by rfl) ?_; clear H; intro wx H)) | ((with_reducible refine here_alloc ?_); first | (refine wpList_alloc_st H rfl 41 rfl _ act_zero ?_; clear H; intro gac4 wx H) | (refine wpList_alloc_st H rfl 71 rfl _ slot_zero ?_; clear H; intro gsl4 wx H)) | ((with_reducible refine here_box ?_); refine wpList_box_st H rfl _ _ rfl _ rfl ?_; clear H; intro gb4 wx H)))
      exact HF.out _ _ (by unfold lineR; rw [HR.out]) (H.subm _)


end Go.Proofs.YtjakmpkfniangaaDoor
