/- lines.Check at any act. -/
import Derived.Test.YtjakmpkfniangaaDoorFm
import Derived.Test.YtjakmpkfniangaaDoorSlB
namespace Go.Proofs.YtjakmpkfniangaaDoor
open Go.RowKit

set_option linter.unusedVariables false
theorem sc_pint : (match Tryd.prog.underlying 69 with | some (.struct _) | some (.array _ _) | none => true | _ => false) = false := by kernel_rfl
instance scTy_pint : ScTy 69 := ⟨by kernel_rfl, by kernel_rfl⟩
/-- an act as its eleven numbers -/
def iCells (vs : List Int) : Array Value := (vs.map (.int .i64)).toArray
theorem iCells_at (vs : List Int) (j : Nat) (v : Int) (h : vs[j]? = some v) : (iCells vs).toList[j]? = some (.int .i64 v) := by
  simp [iCells, h]
theorem iCells_size (vs : List Int) : (iCells vs).size = vs.length := by simp [iCells]
theorem iCells_set (vs : List Int) (j : Nat) (v : Int) : (iCells vs).setIfInBounds j (.int .i64 v) = iCells (vs.set j v) := by
  simp [iCells, List.map_set]
theorem iCells_11 {vs : List Int} (h : vs.length = 11) : ∃ x0 x1 x2 x3 x4 x5 x6 x7 x8 x9 x10 : Int, vs = [x0, x1, x2, x3, x4, x5, x6, x7, x8, x9, x10] := by
  match vs, h with
  | [x0, x1, x2, x3, x4, x5, x6, x7, x8, x9, x10], _ => exact ⟨x0, x1, x2, x3, x4, x5, x6, x7, x8, x9, x10, rfl⟩
def zeroed (vs : List Int) : List (Nat × Int) → List Int
  | [] => vs
  | s :: ss => zeroed (vs.set s.1 0) ss
theorem zeroed_snoc (vs : List Int) (ss : List (Nat × Int)) (s : Nat × Int) : zeroed vs (ss ++ [s]) = (zeroed vs ss).set s.1 0 := by
  induction ss generalizing vs with
  | nil => rfl
  | cons x ss ih => exact ih (vs.set x.1 0)
theorem zeroed_len (vs : List Int) (ss : List (Nat × Int)) : (zeroed vs ss).length = vs.length := by
  induction ss generalizing vs with
  | nil => rfl
  | cons x ss ih =>
    show (zeroed (vs.set x.1 0) ss).length = vs.length
    rw [ih]
    simp
/-- is one of the numbers out of its bounds? -/
def slotBad (vs : List Int) (s : Nat × Int) : Bool := decide (vs.getD s.1 0 < 0) || decide (s.2 < vs.getD s.1 0)
/-- what Check answers -/
def checkR (vs : List Int) : Int :=
  if (formR (vs.getD 0 0) (vs.getD 5 0)).2.2 = false then 3
  else if (formR (vs.getD 0 0) (vs.getD 5 0)).2.1.any (slotBad vs) then 2
  else if (if (zeroed vs (formR (vs.getD 0 0) (vs.getD 5 0)).2.1).getD 0 0 = 2 then (zeroed vs (formR (vs.getD 0 0) (vs.getD 5 0)).2.1).set 5 0 else zeroed vs (formR (vs.getD 0 0) (vs.getD 5 0)).2.1).set 0 0 = List.replicate 11 0 then 0 else 3
theorem iteInd {α : Type} {P : α → Prop} (c : Prop) [Decidable c] {a b : α} (h1 : P a) (h2 : P b) : P (if c then a else b) := by
  split
  · exact h1
  · exact h2
theorem formR_off (k e : Int) : ∀ s ∈ (formR k e).2.1, s.1 < 11 := by
  have h : ((formR k e).2.1.all fun s => decide (s.1 < 11)) = true := by
    unfold formR
    repeat (first | exact rfl | refine iteInd (P := fun r : ByteArray × List (Nat × Int) × Bool => (r.2.1.all fun s => decide (s.1 < 11)) = true) _ rfl ?_)
  intro s hs
  simpa using List.all_eq_true.1 h s hs
/-- a number's row -/
theorem slotAt {w : World} {b0 g n k : Nat} {A : Option Addr} {ss : List (Nat × Int)} (hr : Reads w b0 2 A n (slotCells g ss)) (hl : ss.length = n) (hk : k < n) :
    ∃ b off, A = some ⟨b, off, none⟩ ∧ b < b0 ∧ w.cell? ⟨b, off + k * 2, none⟩ = some (.pointer (some ⟨g, (ss.getD k (0, 0)).1, none⟩)) ∧ w.cell? ⟨b, off + k * 2 + 1, none⟩ = some (.int .i64 (ss.getD k (0, 0)).2) := by
  obtain ⟨b, off, rfl, hb, hc⟩ := hr.plain (by omega) (by omega)
  have hat : ∀ j, j < 2 → (slotCells g ss)[k * 2 + j]? = ([Value.pointer (some ⟨g, (ss.getD k (0, 0)).1, none⟩), .int .i64 (ss.getD k (0, 0)).2] : List Value)[j]? := by
    clear hr hc
    subst hl
    induction ss generalizing k with
    | nil => cases hk
    | cons s ss ih =>
      intro j hj
      cases k with
      | zero =>
        simp only [slotCells, List.flatMap_cons, Nat.zero_mul, Nat.zero_add]
        rw [List.getElem?_append_left (by simp; omega)]
        simp [List.getD]
      | succ k =>
        have h := ih (k := k) (by simpa using hk) j hj
        simp only [slotCells, List.flatMap_cons] at h ⊢
        rw [List.getElem?_append_right (by simp; omega)]
        rw [show (k + 1) * 2 + j - [Value.pointer (some ⟨g, s.1, none⟩), .int .i64 s.2].length = k * 2 + j by simp; omega, h]
        simp [List.getD]
  refine ⟨b, off, rfl, hb, ?_, ?_⟩
  · have := hc (k * 2 + 0) _ ((hat 0 (by omega)).trans rfl)
    simpa using this
  · have := hc (k * 2 + 1) _ ((hat 1 (by omega)).trans rfl)
    rw [Nat.add_assoc]
    exact this
theorem act_ne (x0 x1 x2 x3 x4 x5 x6 x7 x8 x9 x10 : Int) (w : World) : (binOp .neq 41 (.agg #[.int .i64 x0, .int .i64 x1, .int .i64 x2, .int .i64 x3, .int .i64 x4, .int .i64 x5, .int .i64 x6, .int .i64 x7, .int .i64 x8, .int .i64 x9, .int .i64 x10]) (.agg #[.int .i64 0, .int .i64 0, .int .i64 0, .int .i64 0, .int .i64 0, .int .i64 0, .int .i64 0, .int .i64 0, .int .i64 0, .int .i64 0, .int .i64 0])).run Tryd.prog w = .ok (.bool (!decide ([x0, x1, x2, x3, x4, x5, x6, x7, x8, x9, x10] = List.replicate 11 0))) w := by
  have h1 : Tryd.prog.underlying 41 = some (.struct (Tryd.prog.fieldsOf 41)) := by kernel_rfl
  have h2 : Tryd.prog.stoodInHeld 41 = false := by kernel_rfl
  rw [run_neq_struct, run_equalIn_struct _ _ _ _ _ h1 h2]
  simp [go_sem, List.replicate]
  repeat' split
  all_goals simp_all
theorem formR_len (k e : Int) : (formR k e).2.1.length ≤ 5 := by
  unfold formR
  repeat (first | exact Nat.zero_le _ | (refine iteInd (P := fun r : ByteArray × List (Nat × Int) × Bool => r.2.1.length ≤ 5) _ (by simp) ?_))
theorem form_i {w0 w : World} {I : List It} (g : Nat) (vs : List Int) (hl : vs.length = 11) (wd : ByteArray) (ss : List (Nat × Int)) (ok : Bool) (n : Nat) (hr : formR (vs.getD 0 0) (vs.getD 5 0) = (wd, ss, ok)) (hn : ss.length = n) (H : St w0 w I) [hm : HasB I g 41 (iCells vs)] :
    Calls Tryd.prog 24 #[.pointer (some ⟨g, 0, none⟩)] w (fun ed w' => ∃ A, ed = .returned (.tuple #[.string wd, .slice A n n, .bool ok]) ∧ St w0 w' (slIt g A ss :: I)) := by
  subst hn
  obtain ⟨x0, x1, x2, x3, x4, x5, x6, x7, x8, x9, x10, rfl⟩ := iCells_11 hl
  have h := form_st (hm := (show HasB I g 41 #[.int .i64 x0, .int .i64 x1, .int .i64 x2, .int .i64 x3, .int .i64 x4, .int .i64 x5, .int .i64 x6, .int .i64 x7, .int .i64 x8, .int .i64 x9, .int .i64 x10] from hm)) (w0 := w0) g x0 x1 x2 x3 x4 x5 x6 x7 x8 x9 x10 H
  rw [show formR x0 x5 = (wd, ss, ok) from hr] at h
  exact h
set_option maxRecDepth 100000 in
set_option maxHeartbeats 8000000 in
theorem lcheck_st {w0 w : World} {I : List It} (vs : List Int) (hl : vs.length = 11) (H : St w0 w I) :
    Calls Tryd.prog 13 #[.agg (iCells vs)] w (fun ed w' => ed = .returned (.int .i64 (checkR vs)) ∧ St w0 w' I) := by
  have HL := Lib.hid hl
  have HF := Lib.hid (fun W c (hc : checkR vs = c) (h : St w0 W I) => (show (fun ed w' => ed = Ending.returned (.int .i64 (checkR vs)) ∧ St w0 w' I) (Ending.returned (.int .i64 c)) W from ⟨by rw [hc], h⟩))
  generalize (fun ed w' => ed = Ending.returned (.int .i64 (checkR vs)) ∧ St w0 w' I) = POST at *
  obtain ⟨wd, ss, ok, hr⟩ : ∃ wd ss ok, formR (vs.getD 0 0) (vs.getD 5 0) = (wd, ss, ok) := ⟨_, _, _, rfl⟩
  have hn5 := formR_len (vs.getD 0 0) (vs.getD 5 0)
  have hoff := formR_off (vs.getD 0 0) (vs.getD 5 0)
  rw [hr] at hn5 hoff
  dsimp only at hn5 hoff
  obtain ⟨n, hn⟩ : ∃ n, ss.length = n := ⟨_, rfl⟩
  rw [hn] at hn5
  have HN := Lib.hid hn
  have HOFF := Lib.hid hoff
  have HR := Lib.hid hr
  have CF := Lib.hid (fun W J g (H : St w0 W J) (hm : HasB J g 41 (iCells vs)) => form_i (hm := hm) (w0 := w0) (w := W) (I := J) g vs HL.out wd ss ok n HR.out HN.out H)
  clear hl hn hr hoff
  go_enter Tryd.func13, Tryd.ntmps13
  go_upto_region 2 with (first | (go_at_call 24; (with_reducible refine (CF.out _ _ gb H inferInstance).mono ?_); clear H; rintro ed wy ⟨A, rfl, H⟩) | ((with_reducible refine here_box ?_); refine wpList_box_st H rfl 41 _ rfl _ rfl ?_; clear H; intro gb wx H) | (first | ((with_reducible refine here_load ?_); first | refine ldR H rfl _ _ rfl rfl (by kernel_rfl) ?_ | refine ldS H rfl _ _ rfl rfl (by rfl) ?_ | refine ldSG H (by rfl) _ _ rfl rfl (by rfl) ?_ | refine ldRG H (by rfl) _ _ rfl rfl (by kernel_rfl) ?_) | ((with_reducible refine here_store ?_); first | (refine stR H rfl _ _ _ rfl rfl rfl (by rfl) (by rfl) (by kernel_rfl) ?_; clear H; intro wx H) | (refine stS H rfl _ _ _ rfl rfl _ rfl (by rfl) (by rfl) (by rfl) ?_; clear H; intro wx H)) | ((with_reducible refine here_alloc ?_); first | (refine wpList_alloc_st H rfl 41 rfl _ act_zero ?_; clear H; intro gac1 wx H) | (refine wpList_alloc_st H rfl 71 rfl _ slot_zero ?_; clear H; intro gsl1 wx H)) | ((with_reducible refine here_box ?_); refine wpList_box_st H rfl _ _ rfl _ rfl ?_; clear H; intro gb1 wx H)))
  (try simp only [Act.put])
  cases ok
  · go_wp2_with (first | ((with_reducible refine here_load ?_); first | refine ldR H rfl _ _ rfl rfl (by kernel_rfl) ?_ | refine ldS H rfl _ _ rfl rfl (by rfl) ?_ | refine ldSG H (by rfl) _ _ rfl rfl (by rfl) ?_ | refine ldRG H (by rfl) _ _ rfl rfl (by kernel_rfl) ?_) | ((with_reducible refine here_store ?_); first | (refine stR H rfl _ _ _ rfl rfl rfl (by rfl) (by rfl) (by kernel_rfl) ?_; clear H; intro wx H) | (refine stS H rfl _ _ _ rfl rfl _ rfl (by rfl) (by rfl) (by rfl) ?_; clear H; intro wx H)) | ((with_reducible refine here_alloc ?_); first | (refine wpList_alloc_st H rfl 41 rfl _ act_zero ?_; clear H; intro gac2 wx H) | (refine wpList_alloc_st H rfl 71 rfl _ slot_zero ?_; clear H; intro gsl2 wx H)) | ((with_reducible refine here_box ?_); refine wpList_box_st H rfl _ _ rfl _ rfl ?_; clear H; intro gb2 wx H))
    exact HF.out _ 3 (by unfold checkR; rw [HR.out]; rfl) (H.subm _)
  · go_upto_region 5 with (first | ((with_reducible refine here_load ?_); first | refine ldR H rfl _ _ rfl rfl (by kernel_rfl) ?_ | refine ldS H rfl _ _ rfl rfl (by rfl) ?_ | refine ldSG H (by rfl) _ _ rfl rfl (by rfl) ?_ | refine ldRG H (by rfl) _ _ rfl rfl (by kernel_rfl) ?_) | ((with_reducible refine here_store ?_); first | (refine stR H rfl _ _ _ rfl rfl rfl (by rfl) (by rfl) (by kernel_rfl) ?_; clear H; intro wx H) | (refine stS H rfl _ _ _ rfl rfl _ rfl (by rfl) (by rfl) (by rfl) ?_; clear H; intro wx H)) | ((with_reducible refine here_alloc ?_); first | (refine wpList_alloc_st H rfl 41 rfl _ act_zero ?_; clear H; intro gac2 wx H) | (refine wpList_alloc_st H rfl 71 rfl _ slot_zero ?_; clear H; intro gsl2 wx H)) | ((with_reducible refine here_box ?_); refine wpList_box_st H rfl _ _ rfl _ rfl ?_; clear H; intro gb2 wx H))
    replace H : St w0 wy (.bl gb 41 (iCells vs) :: slIt gb A ss :: I) := H.subm _
    go_loopw [19] (fun s19 wr => ∃ k : Nat, k ≤ n ∧ s19 = .int .i64 k ∧ Hid (∀ t, t < k → slotBad vs (ss.getD t (0, 0)) = false) ∧ St w0 wr (.bl gb 41 (iCells vs) :: slIt gb A ss :: I)) (fun s19 _ => n - (intOf s19).toNat)
    case atStart => exact ⟨0, by omega, rfl, Lib.hid (fun t ht => by omega), H⟩
    case round =>
      clear H
      obtain ⟨k, hk, rfl, hno, H⟩ := hrel
      have k0 : (0 : Int) ≤ (k : Int) := by omega
      have wk : IntKind.i64.wrap ((k : Int) + 1) = (k : Int) + 1 := IntWalk.i64_in _ (by omega)
      by_cases hlt : k < n
      · have k1 : (k : Int) < (n : Int) := by omega
        obtain ⟨b8, o8, hA8, hb8, q0, q1⟩ := slotAt (H.get (slIt gb A ss)) rfl (show k < ss.length by rw [HN.out]; exact hlt)
        subst hA8
        obtain ⟨⟨off, most⟩, hs⟩ : ∃ s, ss.getD k (0, 0) = s := ⟨_, rfl⟩
        have hmem : ss.getD k (0, 0) ∈ ss := by
          rw [List.getD, List.getElem?_eq_getElem (show k < ss.length by rw [HN.out]; exact hlt)]
          exact List.getElem_mem _
        rw [hs] at q0 q1 hmem
        have hoff := HOFF.out _ hmem
        dsimp only at q0 q1 hoff
        obtain ⟨v, hv⟩ : ∃ v, vs[off]? = some v := ⟨vs[off]'(by rw [HL.out]; exact hoff), List.getElem?_eq_getElem _⟩
        have hvd : vs.getD off 0 = v := by simp [List.getD, hv]
        have HV := Lib.hid (iCells_at vs off v hv)
        have HSS := Lib.hid hs
        have HM := Lib.hid hmem
        have HVD := Lib.hid hvd
        have HLT := Lib.hid hlt
        clear hs hmem hoff hv hvd hb8 hlt hk
        go_upto_region 7 with (first | ((with_reducible refine here_alloc ?_); refine wpList_alloc_st H rfl 71 rfl _ slot_zero ?_; clear H; intro g7 wx H) | (first | ((with_reducible refine here_load ?_); first | refine ldR H rfl _ _ rfl rfl (by kernel_rfl) ?_ | refine ldS H rfl _ _ rfl rfl (by rfl) ?_ | refine ldSG H (by rfl) _ _ rfl rfl (by rfl) ?_ | refine ldRG H (by rfl) _ _ rfl rfl (by kernel_rfl) ?_) | ((with_reducible refine here_store ?_); first | (refine stR H rfl _ _ _ rfl rfl rfl (by rfl) (by rfl) (by kernel_rfl) ?_; clear H; intro wx H) | (refine stS H rfl _ _ _ rfl rfl _ rfl (by rfl) (by rfl) (by rfl) ?_; clear H; intro wx H)) | ((with_reducible refine here_alloc ?_); first | (refine wpList_alloc_st H rfl 41 rfl _ act_zero ?_; clear H; intro gac3 wx H) | (refine wpList_alloc_st H rfl 71 rfl _ slot_zero ?_; clear H; intro gsl3 wx H)) | ((with_reducible refine here_box ?_); refine wpList_box_st H rfl _ _ rfl _ rfl ?_; clear H; intro gb3 wx H)))
        (try simp only [Act.put])
        by_cases hneg : v < 0
        · have f1 := decide_eq_true hneg
          have HBAD := Lib.hid (show ss.any (slotBad vs) = true from List.any_eq_true.2 ⟨_, HM.out, by unfold slotBad; dsimp only; rw [HVD.out, f1]; rfl⟩)
          refine startS (H.subm (.bl g7 71 #[.pointer (some ⟨gb, off, none⟩), .int .i64 most] :: .bl gb 41 (iCells vs) :: slIt gb (some ⟨b8, o8, none⟩) ss :: I)) (by kernel_rfl) (fun HS => ?_)
          replace H := H.drew
          refine takeV (i := 0) (v := ?_) rfl (by kernel_rfl) (by kernel_rfl) (by kernel_rfl) (fun _ _ _ h => h) (by rfl) ?_ HS ?_
          rotate_left
          · (intro W hW; go_simp; try with_reducible rfl)
          (try simp only [Act.put, List.setIfInBounds_toArray, List.set_cons_zero, List.set_cons_succ])
          refine take1_st (i := 1) 69 _ rfl rfl rfl sc_pint _ (by rfl) (by kernel_rfl) (by kernel_rfl) (by kernel_rfl) (fun _ _ _ _ h => h) (by rfl) HS ?_
          (try simp only [Act.put, List.setIfInBounds_toArray, List.set_cons_zero, List.set_cons_succ])
          refine takeV (i := 2) (v := ?_) rfl (by kernel_rfl) (by kernel_rfl) (by kernel_rfl) (fun _ _ _ h => h) (by rfl) ?_ HS ?_
          rotate_left
          · (intro W hW; go_simp; try with_reducible rfl)
          (try simp only [Act.put, List.setIfInBounds_toArray, List.set_cons_zero, List.set_cons_succ])
          refine take1_st (i := 3) (j := off) 3 _ rfl rfl rfl sc_int _ HV.out (by kernel_rfl) (by kernel_rfl) (by kernel_rfl) (fun _ _ _ _ h => h) (by rfl) HS ?_
          (try simp only [Act.put, List.setIfInBounds_toArray, List.set_cons_zero, List.set_cons_succ])
          refine takeV (i := 4) (v := ?_) rfl (by kernel_rfl) (by kernel_rfl) (by kernel_rfl) (fun _ _ _ h => h) (by rfl) ?_ HS ?_
          rotate_left
          · (intro W hW; go_simp; try with_reducible rfl)
          (try simp only [Act.put, List.setIfInBounds_toArray, List.set_cons_zero, List.set_cons_succ])
          refine takeMove (i := 5) rfl rfl _ (by rfl) (by kernel_rfl) (by kernel_rfl) (by kernel_rfl) (fun _ _ _ _ h => h) (by rfl) HS ?_
          (try simp only [Act.put, List.setIfInBounds_toArray, List.set_cons_zero, List.set_cons_succ])
          refine takeSkip (i := 6) rfl (by kernel_rfl) (by kernel_rfl) (by kernel_rfl) (fun _ _ _ _ h => h) (by rfl) HS ?_
          (try simp only [Act.put, List.setIfInBounds_toArray, List.set_cons_zero, List.set_cons_succ])
          refine takeSkip (i := 7) rfl (by kernel_rfl) (by kernel_rfl) (by kernel_rfl) (fun _ _ _ _ h => h) (by rfl) HS ?_
          (try simp only [Act.put, List.setIfInBounds_toArray, List.set_cons_zero, List.set_cons_succ])
          refine takeSkip (i := 8) rfl (by kernel_rfl) (by kernel_rfl) (by kernel_rfl) (fun _ _ _ _ h => h) (by rfl) HS ?_
          (try simp only [Act.put, List.setIfInBounds_toArray, List.set_cons_zero, List.set_cons_succ])
          refine takeSkip (i := 9) rfl (by kernel_rfl) (by kernel_rfl) (by kernel_rfl) (fun _ _ _ _ h => h) (by rfl) HS ?_
          (try simp only [Act.put, List.setIfInBounds_toArray, List.set_cons_zero, List.set_cons_succ])
          refine takeSkip (i := 10) rfl (by kernel_rfl) (by kernel_rfl) (by kernel_rfl) (fun _ _ _ _ h => h) (by rfl) HS ?_
          (try simp only [Act.put, List.setIfInBounds_toArray, List.set_cons_zero, List.set_cons_succ])
          refine takeSkip (i := 11) rfl (by kernel_rfl) (by kernel_rfl) (by kernel_rfl) (fun _ _ _ _ h => h) (by rfl) HS ?_
          (try simp only [Act.put, List.setIfInBounds_toArray, List.set_cons_zero, List.set_cons_succ])
          refine takeSkip (i := 12) rfl (by kernel_rfl) (by kernel_rfl) (by kernel_rfl) (fun _ _ _ _ h => h) (by rfl) HS ?_
          (try simp only [Act.put, List.setIfInBounds_toArray, List.set_cons_zero, List.set_cons_succ])
          refine takeV (i := 13) (v := ?_) rfl (by kernel_rfl) (by kernel_rfl) (by kernel_rfl) (fun _ _ _ h => h) (by rfl) ?_ HS ?_
          rotate_left
          · (intro W hW; go_simp; try with_reducible rfl)
          (try simp only [Act.put, List.setIfInBounds_toArray, List.set_cons_zero, List.set_cons_succ])
          refine doneH (by kernel_rfl) ?_
          go_wp2_with (first | ((with_reducible refine here_load ?_); first | refine ldR H rfl _ _ rfl rfl (by kernel_rfl) ?_ | refine ldS H rfl _ _ rfl rfl (by rfl) ?_ | refine ldSG H (by rfl) _ _ rfl rfl (by rfl) ?_ | refine ldRG H (by rfl) _ _ rfl rfl (by kernel_rfl) ?_) | ((with_reducible refine here_store ?_); first | (refine stR H rfl _ _ _ rfl rfl rfl (by rfl) (by rfl) (by kernel_rfl) ?_; clear H; intro wx H) | (refine stS H rfl _ _ _ rfl rfl _ rfl (by rfl) (by rfl) (by rfl) ?_; clear H; intro wx H)) | ((with_reducible refine here_alloc ?_); first | (refine wpList_alloc_st H rfl 41 rfl _ act_zero ?_; clear H; intro gac4 wx H) | (refine wpList_alloc_st H rfl 71 rfl _ slot_zero ?_; clear H; intro gsl4 wx H)) | ((with_reducible refine here_box ?_); refine wpList_box_st H rfl _ _ rfl _ rfl ?_; clear H; intro gb4 wx H))
          exact HF.out _ 2 (by unfold checkR; rw [HR.out]; dsimp only; rw [if_neg (by simp), if_pos HBAD.out]) (H.subm _)
        · have f1 := decide_eq_false hneg
          have HNEG := Lib.hid hneg
          by_cases hbig : most < v
          · have f2 := decide_eq_true hbig
            have HBAD := Lib.hid (show ss.any (slotBad vs) = true from List.any_eq_true.2 ⟨_, HM.out, by unfold slotBad; dsimp only; rw [HVD.out, f2, Bool.or_true]⟩)
            refine startS (H.subm (.bl g7 71 #[.pointer (some ⟨gb, off, none⟩), .int .i64 most] :: .bl gb 41 (iCells vs) :: slIt gb (some ⟨b8, o8, none⟩) ss :: I)) (by kernel_rfl) (fun HS => ?_)
            replace H := H.drew
            refine takeV (i := 0) (v := ?_) rfl (by kernel_rfl) (by kernel_rfl) (by kernel_rfl) (fun _ _ _ h => h) (by rfl) ?_ HS ?_
            rotate_left
            · (intro W hW; go_simp; try with_reducible rfl)
            (try simp only [Act.put, List.setIfInBounds_toArray, List.set_cons_zero, List.set_cons_succ])
            refine take1_st (i := 1) 69 _ rfl rfl rfl sc_pint _ (by rfl) (by kernel_rfl) (by kernel_rfl) (by kernel_rfl) (fun _ _ _ _ h => h) (by rfl) HS ?_
            (try simp only [Act.put, List.setIfInBounds_toArray, List.set_cons_zero, List.set_cons_succ])
            refine takeV (i := 2) (v := ?_) rfl (by kernel_rfl) (by kernel_rfl) (by kernel_rfl) (fun _ _ _ h => h) (by rfl) ?_ HS ?_
            rotate_left
            · (intro W hW; go_simp; try with_reducible rfl)
            (try simp only [Act.put, List.setIfInBounds_toArray, List.set_cons_zero, List.set_cons_succ])
            refine take1_st (i := 3) (j := off) 3 _ rfl rfl rfl sc_int _ HV.out (by kernel_rfl) (by kernel_rfl) (by kernel_rfl) (fun _ _ _ _ h => h) (by rfl) HS ?_
            (try simp only [Act.put, List.setIfInBounds_toArray, List.set_cons_zero, List.set_cons_succ])
            refine takeV (i := 4) (v := ?_) rfl (by kernel_rfl) (by kernel_rfl) (by kernel_rfl) (fun _ _ _ h => h) (by rfl) ?_ HS ?_
            rotate_left
            · (intro W hW; go_simp; try with_reducible rfl)
            (try simp only [Act.put, List.setIfInBounds_toArray, List.set_cons_zero, List.set_cons_succ])
            refine takeMove (i := 5) rfl rfl _ (by rfl) (by kernel_rfl) (by kernel_rfl) (by kernel_rfl) (fun _ _ _ _ h => h) (by rfl) HS ?_
            (try simp only [Act.put, List.setIfInBounds_toArray, List.set_cons_zero, List.set_cons_succ])
            refine takeV (i := 6) (v := ?_) rfl (by kernel_rfl) (by kernel_rfl) (by kernel_rfl) (fun _ _ _ h => h) (by rfl) ?_ HS ?_
            rotate_left
            · (intro W hW; go_simp; try with_reducible rfl)
            (try simp only [Act.put, List.setIfInBounds_toArray, List.set_cons_zero, List.set_cons_succ])
            refine take1_st (i := 7) 69 _ rfl rfl rfl sc_pint _ (by rfl) (by kernel_rfl) (by kernel_rfl) (by kernel_rfl) (fun _ _ _ _ h => h) (by rfl) HS ?_
            (try simp only [Act.put, List.setIfInBounds_toArray, List.set_cons_zero, List.set_cons_succ])
            refine takeV (i := 8) (v := ?_) rfl (by kernel_rfl) (by kernel_rfl) (by kernel_rfl) (fun _ _ _ h => h) (by rfl) ?_ HS ?_
            rotate_left
            · (intro W hW; go_simp; try with_reducible rfl)
            (try simp only [Act.put, List.setIfInBounds_toArray, List.set_cons_zero, List.set_cons_succ])
            refine take1_st (i := 9) (j := off) 3 _ rfl rfl rfl sc_int _ HV.out (by kernel_rfl) (by kernel_rfl) (by kernel_rfl) (fun _ _ _ _ h => h) (by rfl) HS ?_
            (try simp only [Act.put, List.setIfInBounds_toArray, List.set_cons_zero, List.set_cons_succ])
            refine takeV (i := 10) (v := ?_) rfl (by kernel_rfl) (by kernel_rfl) (by kernel_rfl) (fun _ _ _ h => h) (by rfl) ?_ HS ?_
            rotate_left
            · (intro W hW; go_simp; try with_reducible rfl)
            (try simp only [Act.put, List.setIfInBounds_toArray, List.set_cons_zero, List.set_cons_succ])
            refine take1_st (i := 11) 3 _ rfl rfl rfl sc_int _ (by rfl) (by kernel_rfl) (by kernel_rfl) (by kernel_rfl) (fun _ _ _ _ h => h) (by rfl) HS ?_
            (try simp only [Act.put, List.setIfInBounds_toArray, List.set_cons_zero, List.set_cons_succ])
            refine takeV (i := 12) (v := ?_) rfl (by kernel_rfl) (by kernel_rfl) (by kernel_rfl) (fun _ _ _ h => h) (by rfl) ?_ HS ?_
            rotate_left
            · (intro W hW; go_simp; try with_reducible rfl)
            (try simp only [Act.put, List.setIfInBounds_toArray, List.set_cons_zero, List.set_cons_succ])
            refine takeV (i := 13) (v := ?_) rfl (by kernel_rfl) (by kernel_rfl) (by kernel_rfl) (fun _ _ _ h => h) (by rfl) ?_ HS ?_
            rotate_left
            · (intro W hW; go_simp; try with_reducible rfl)
            (try simp only [Act.put, List.setIfInBounds_toArray, List.set_cons_zero, List.set_cons_succ])
            refine doneH (by kernel_rfl) ?_
            go_wp2_with (first | ((with_reducible refine here_load ?_); first | refine ldR H rfl _ _ rfl rfl (by kernel_rfl) ?_ | refine ldS H rfl _ _ rfl rfl (by rfl) ?_ | refine ldSG H (by rfl) _ _ rfl rfl (by rfl) ?_ | refine ldRG H (by rfl) _ _ rfl rfl (by kernel_rfl) ?_) | ((with_reducible refine here_store ?_); first | (refine stR H rfl _ _ _ rfl rfl rfl (by rfl) (by rfl) (by kernel_rfl) ?_; clear H; intro wx H) | (refine stS H rfl _ _ _ rfl rfl _ rfl (by rfl) (by rfl) (by rfl) ?_; clear H; intro wx H)) | ((with_reducible refine here_alloc ?_); first | (refine wpList_alloc_st H rfl 41 rfl _ act_zero ?_; clear H; intro gac4 wx H) | (refine wpList_alloc_st H rfl 71 rfl _ slot_zero ?_; clear H; intro gsl4 wx H)) | ((with_reducible refine here_box ?_); refine wpList_box_st H rfl _ _ rfl _ rfl ?_; clear H; intro gb4 wx H))
            exact HF.out _ 2 (by unfold checkR; rw [HR.out]; dsimp only; rw [if_neg (by simp), if_pos HBAD.out]) (H.subm _)
          · have f2 := decide_eq_false hbig
            have HGOOD := Lib.hid (show ∀ t, t < k + 1 → slotBad vs (ss.getD t (0, 0)) = false from fun t ht => by
              by_cases htk : t < k
              · exact hno.out t htk
              · obtain rfl : t = k := by omega
                rw [HSS.out]
                unfold slotBad
                dsimp only
                rw [HVD.out, f1, f2]
                rfl)
            refine startS (H.subm (.bl g7 71 #[.pointer (some ⟨gb, off, none⟩), .int .i64 most] :: .bl gb 41 (iCells vs) :: slIt gb (some ⟨b8, o8, none⟩) ss :: I)) (by kernel_rfl) (fun HS => ?_)
            replace H := H.drew
            refine takeV (i := 0) (v := ?_) rfl (by kernel_rfl) (by kernel_rfl) (by kernel_rfl) (fun _ _ _ h => h) (by rfl) ?_ HS ?_
            rotate_left
            · (intro W hW; go_simp; try with_reducible rfl)
            (try simp only [Act.put, List.setIfInBounds_toArray, List.set_cons_zero, List.set_cons_succ])
            refine take1_st (i := 1) 69 _ rfl rfl rfl sc_pint _ (by rfl) (by kernel_rfl) (by kernel_rfl) (by kernel_rfl) (fun _ _ _ _ h => h) (by rfl) HS ?_
            (try simp only [Act.put, List.setIfInBounds_toArray, List.set_cons_zero, List.set_cons_succ])
            refine takeV (i := 2) (v := ?_) rfl (by kernel_rfl) (by kernel_rfl) (by kernel_rfl) (fun _ _ _ h => h) (by rfl) ?_ HS ?_
            rotate_left
            · (intro W hW; go_simp; try with_reducible rfl)
            (try simp only [Act.put, List.setIfInBounds_toArray, List.set_cons_zero, List.set_cons_succ])
            refine take1_st (i := 3) (j := off) 3 _ rfl rfl rfl sc_int _ HV.out (by kernel_rfl) (by kernel_rfl) (by kernel_rfl) (fun _ _ _ _ h => h) (by rfl) HS ?_
            (try simp only [Act.put, List.setIfInBounds_toArray, List.set_cons_zero, List.set_cons_succ])
            refine takeV (i := 4) (v := ?_) rfl (by kernel_rfl) (by kernel_rfl) (by kernel_rfl) (fun _ _ _ h => h) (by rfl) ?_ HS ?_
            rotate_left
            · (intro W hW; go_simp; try with_reducible rfl)
            (try simp only [Act.put, List.setIfInBounds_toArray, List.set_cons_zero, List.set_cons_succ])
            refine takeMove (i := 5) rfl rfl _ (by rfl) (by kernel_rfl) (by kernel_rfl) (by kernel_rfl) (fun _ _ _ _ h => h) (by rfl) HS ?_
            (try simp only [Act.put, List.setIfInBounds_toArray, List.set_cons_zero, List.set_cons_succ])
            refine takeV (i := 6) (v := ?_) rfl (by kernel_rfl) (by kernel_rfl) (by kernel_rfl) (fun _ _ _ h => h) (by rfl) ?_ HS ?_
            rotate_left
            · (intro W hW; go_simp; try with_reducible rfl)
            (try simp only [Act.put, List.setIfInBounds_toArray, List.set_cons_zero, List.set_cons_succ])
            refine take1_st (i := 7) 69 _ rfl rfl rfl sc_pint _ (by rfl) (by kernel_rfl) (by kernel_rfl) (by kernel_rfl) (fun _ _ _ _ h => h) (by rfl) HS ?_
            (try simp only [Act.put, List.setIfInBounds_toArray, List.set_cons_zero, List.set_cons_succ])
            refine takeV (i := 8) (v := ?_) rfl (by kernel_rfl) (by kernel_rfl) (by kernel_rfl) (fun _ _ _ h => h) (by rfl) ?_ HS ?_
            rotate_left
            · (intro W hW; go_simp; try with_reducible rfl)
            (try simp only [Act.put, List.setIfInBounds_toArray, List.set_cons_zero, List.set_cons_succ])
            refine take1_st (i := 9) (j := off) 3 _ rfl rfl rfl sc_int _ HV.out (by kernel_rfl) (by kernel_rfl) (by kernel_rfl) (fun _ _ _ _ h => h) (by rfl) HS ?_
            (try simp only [Act.put, List.setIfInBounds_toArray, List.set_cons_zero, List.set_cons_succ])
            refine takeV (i := 10) (v := ?_) rfl (by kernel_rfl) (by kernel_rfl) (by kernel_rfl) (fun _ _ _ h => h) (by rfl) ?_ HS ?_
            rotate_left
            · (intro W hW; go_simp; try with_reducible rfl)
            (try simp only [Act.put, List.setIfInBounds_toArray, List.set_cons_zero, List.set_cons_succ])
            refine take1_st (i := 11) 3 _ rfl rfl rfl sc_int _ (by rfl) (by kernel_rfl) (by kernel_rfl) (by kernel_rfl) (fun _ _ _ _ h => h) (by rfl) HS ?_
            (try simp only [Act.put, List.setIfInBounds_toArray, List.set_cons_zero, List.set_cons_succ])
            refine takeV (i := 12) (v := ?_) rfl (by kernel_rfl) (by kernel_rfl) (by kernel_rfl) (fun _ _ _ h => h) (by rfl) ?_ HS ?_
            rotate_left
            · (intro W hW; go_simp; try with_reducible rfl)
            (try simp only [Act.put, List.setIfInBounds_toArray, List.set_cons_zero, List.set_cons_succ])
            refine takeV (i := 13) (v := ?_) rfl (by kernel_rfl) (by kernel_rfl) (by kernel_rfl) (fun _ _ _ h => h) (by rfl) ?_ HS ?_
            rotate_left
            · (intro W hW; go_simp; try with_reducible rfl)
            (try simp only [Act.put, List.setIfInBounds_toArray, List.set_cons_zero, List.set_cons_succ])
            refine doneH (by kernel_rfl) ?_
            go_wp2_with (first | ((with_reducible refine here_load ?_); first | refine ldR H rfl _ _ rfl rfl (by kernel_rfl) ?_ | refine ldS H rfl _ _ rfl rfl (by rfl) ?_ | refine ldSG H (by rfl) _ _ rfl rfl (by rfl) ?_ | refine ldRG H (by rfl) _ _ rfl rfl (by kernel_rfl) ?_) | ((with_reducible refine here_store ?_); first | (refine stR H rfl _ _ _ rfl rfl rfl (by rfl) (by rfl) (by kernel_rfl) ?_; clear H; intro wx H) | (refine stS H rfl _ _ _ rfl rfl _ rfl (by rfl) (by rfl) (by rfl) ?_; clear H; intro wx H)) | ((with_reducible refine here_alloc ?_); first | (refine wpList_alloc_st H rfl 41 rfl _ act_zero ?_; clear H; intro gac4 wx H) | (refine wpList_alloc_st H rfl 71 rfl _ slot_zero ?_; clear H; intro gsl4 wx H)) | ((with_reducible refine here_box ?_); refine wpList_box_st H rfl _ _ rfl _ rfl ?_; clear H; intro gb4 wx H))
            go_roundw
            case rel => exact ⟨k + 1, by have := HLT.out; omega, by go_num, HGOOD, H.subm _⟩
            case measure => have := HLT.out; simp [intOf] <;> omega
      · obtain rfl : k = n := by omega
        have k1 : ¬ (k : Int) < (k : Int) := by omega
        have HANY := Lib.hid (show ss.any (slotBad vs) = false from by
          rw [List.any_eq_false]
          intro s hs
          obtain ⟨t, ht, rfl⟩ := List.mem_iff_getElem.1 hs
          have h1 := hno.out t (by have := HN.out; omega)
          rw [List.getD, List.getElem?_eq_getElem ht] at h1
          rw [show slotBad vs ss[t] = false from h1]
          simp)
        clear hlt hk hno
        go_upto_region 11 with (first | ((with_reducible refine here_load ?_); first | refine ldR H rfl _ _ rfl rfl (by kernel_rfl) ?_ | refine ldS H rfl _ _ rfl rfl (by rfl) ?_ | refine ldSG H (by rfl) _ _ rfl rfl (by rfl) ?_ | refine ldRG H (by rfl) _ _ rfl rfl (by kernel_rfl) ?_) | ((with_reducible refine here_store ?_); first | (refine stR H rfl _ _ _ rfl rfl rfl (by rfl) (by rfl) (by kernel_rfl) ?_; clear H; intro wx H) | (refine stS H rfl _ _ _ rfl rfl _ rfl (by rfl) (by rfl) (by rfl) ?_; clear H; intro wx H)) | ((with_reducible refine here_alloc ?_); first | (refine wpList_alloc_st H rfl 41 rfl _ act_zero ?_; clear H; intro gac5 wx H) | (refine wpList_alloc_st H rfl 71 rfl _ slot_zero ?_; clear H; intro gsl5 wx H)) | ((with_reducible refine here_box ?_); refine wpList_box_st H rfl _ _ rfl _ rfl ?_; clear H; intro gb5 wx H))
        replace H : St w0 wr (.bl gb 41 (iCells (zeroed vs (ss.take 0))) :: slIt gb A ss :: I) := H
        go_loopw [40] (fun s40 wr => ∃ j : Nat, j ≤ k ∧ s40 = .int .i64 j ∧ St w0 wr (.bl gb 41 (iCells (zeroed vs (ss.take j))) :: slIt gb A ss :: I)) (fun s40 _ => k - (intOf s40).toNat)
        case atStart => exact ⟨0, by omega, rfl, H⟩
        case round =>
          clear H
          obtain ⟨j, hj, rfl, H⟩ := hrel
          have j0 : (0 : Int) ≤ (j : Int) := by omega
          have wj : IntKind.i64.wrap ((j : Int) + 1) = (j : Int) + 1 := IntWalk.i64_in _ (by omega)
          by_cases hlt : j < k
          · have j1 : (j : Int) < (k : Int) := by omega
            obtain ⟨b8, o8, hA8, hb8, q0, q1⟩ := slotAt (H.get (slIt gb A ss)) rfl (show j < ss.length by rw [HN.out]; exact hlt)
            subst hA8
            have hjl : j < ss.length := by rw [HN.out]; exact hlt
            obtain ⟨⟨off, most⟩, hs⟩ : ∃ s, ss.getD j (0, 0) = s := ⟨_, rfl⟩
            have hmem : ss.getD j (0, 0) ∈ ss := by
              rw [List.getD, List.getElem?_eq_getElem hjl]
              exact List.getElem_mem _
            have htk : ss.take (j + 1) = ss.take j ++ [(off, most)] := by
              rw [List.take_add_one, List.getElem?_eq_getElem hjl, ← hs]
              simp [List.getD, List.getElem?_eq_getElem hjl]
            rw [hs] at q0 q1 hmem
            have hoff := HOFF.out _ hmem
            dsimp only at q0 q1 hoff
            have HSZ := Lib.hid (show Nat.blt off (iCells (zeroed vs (ss.take j))).size = true from by rw [iCells_size, zeroed_len, HL.out, Nat.blt_eq]; exact hoff)
            have HNX := Lib.hid (show (iCells (zeroed vs (ss.take j))).setIfInBounds off (.int .i64 0) = iCells (zeroed vs (ss.take (j + 1))) from by rw [htk, zeroed_snoc, iCells_set])
            have HLT := Lib.hid hlt
            clear hs hmem hoff hb8 hlt hj hjl htk
            go_wp2_with (first | ((with_reducible refine here_alloc ?_); refine wpList_alloc_st H rfl 71 rfl _ slot_zero ?_; clear H; intro g9 wx H) | ((with_reducible refine here_store ?_); refine stS (j := off) H rfl _ _ _ rfl rfl (.int .i64 0) rfl rfl HSZ.out rfl ?_; clear H; intro wx H; rw [HNX.out] at H) | (first | ((with_reducible refine here_load ?_); first | refine ldR H rfl _ _ rfl rfl (by kernel_rfl) ?_ | refine ldS H rfl _ _ rfl rfl (by rfl) ?_ | refine ldSG H (by rfl) _ _ rfl rfl (by rfl) ?_ | refine ldRG H (by rfl) _ _ rfl rfl (by kernel_rfl) ?_) | ((with_reducible refine here_store ?_); first | (refine stR H rfl _ _ _ rfl rfl rfl (by rfl) (by rfl) (by kernel_rfl) ?_; clear H; intro wx H) | (refine stS H rfl _ _ _ rfl rfl _ rfl (by rfl) (by rfl) (by rfl) ?_; clear H; intro wx H)) | ((with_reducible refine here_alloc ?_); first | (refine wpList_alloc_st H rfl 41 rfl _ act_zero ?_; clear H; intro gac6 wx H) | (refine wpList_alloc_st H rfl 71 rfl _ slot_zero ?_; clear H; intro gsl6 wx H)) | ((with_reducible refine here_box ?_); refine wpList_box_st H rfl _ _ rfl _ rfl ?_; clear H; intro gb6 wx H)))
            go_roundw
            case rel => exact ⟨j + 1, by have := HLT.out; omega, by go_num, H.subm _⟩
            case measure => have := HLT.out; simp [intOf] <;> omega
          · obtain rfl : j = k := by omega
            have j1 : ¬ (j : Int) < (j : Int) := by omega
            have HTK := Lib.hid (show ss.take j = ss from List.take_of_length_le (Nat.le_of_eq HN.out))
            rw [HTK.out] at H
            obtain ⟨y0, y1, y2, y3, y4, y5, y6, y7, y8, y9, y10, hy⟩ := iCells_11 (show (zeroed vs ss).length = 11 by rw [zeroed_len, HL.out])
            rw [hy] at H
            have HY := Lib.hid hy
            replace H : St w0 wr (.bl gb 41 #[.int .i64 y0, .int .i64 y1, .int .i64 y2, .int .i64 y3, .int .i64 y4, .int .i64 y5, .int .i64 y6, .int .i64 y7, .int .i64 y8, .int .i64 y9, .int .i64 y10] :: slIt gb A ss :: I) := H
            clear hlt hj hy
            by_cases hk2 : y0 = 2
            · have g1 : ((y0 : Int) == 2) = true := by simp [hk2]
              obtain ⟨bb, hb⟩ : ∃ bb, decide (([0, y1, y2, y3, y4, 0, y6, y7, y8, y9, y10] : List Int) = List.replicate 11 0) = bb := ⟨_, rfl⟩
              have NE := fun W : World => act_ne 0 y1 y2 y3 y4 0 y6 y7 y8 y9 y10 W
              rw [hb] at NE
              have HC := Lib.hid (show checkR vs = if decide (([0, y1, y2, y3, y4, 0, y6, y7, y8, y9, y10] : List Int) = List.replicate 11 0) = true then 0 else 3 from by
                unfold checkR
                rw [HR.out]
                dsimp only
                rw [if_neg (by simp), if_neg (by rw [HANY.out]; simp), HY.out]
                rw [if_pos (show ([y0, y1, y2, y3, y4, y5, y6, y7, y8, y9, y10] : List Int).getD 0 0 = 2 from hk2)]
                simp only [decide_eq_true_eq]
                rfl)
              rw [hb] at HC
              have HK2 := Lib.hid hk2
              clear hb hk2
              cases bb
              · go_wp2_with (first | ((with_reducible refine here_load ?_); first | refine ldR H rfl _ _ rfl rfl (by kernel_rfl) ?_ | refine ldS H rfl _ _ rfl rfl (by rfl) ?_ | refine ldSG H (by rfl) _ _ rfl rfl (by rfl) ?_ | refine ldRG H (by rfl) _ _ rfl rfl (by kernel_rfl) ?_) | ((with_reducible refine here_store ?_); first | (refine stR H rfl _ _ _ rfl rfl rfl (by rfl) (by rfl) (by kernel_rfl) ?_; clear H; intro wx H) | (refine stS H rfl _ _ _ rfl rfl _ rfl (by rfl) (by rfl) (by rfl) ?_; clear H; intro wx H)) | ((with_reducible refine here_alloc ?_); first | (refine wpList_alloc_st H rfl 41 rfl _ act_zero ?_; clear H; intro gac7 wx H) | (refine wpList_alloc_st H rfl 71 rfl _ slot_zero ?_; clear H; intro gsl7 wx H)) | ((with_reducible refine here_box ?_); refine wpList_box_st H rfl _ _ rfl _ rfl ?_; clear H; intro gb7 wx H))
                exact HF.out _ 3 HC.out (H.subm _)
              · go_wp2_with (first | ((with_reducible refine here_load ?_); first | refine ldR H rfl _ _ rfl rfl (by kernel_rfl) ?_ | refine ldS H rfl _ _ rfl rfl (by rfl) ?_ | refine ldSG H (by rfl) _ _ rfl rfl (by rfl) ?_ | refine ldRG H (by rfl) _ _ rfl rfl (by kernel_rfl) ?_) | ((with_reducible refine here_store ?_); first | (refine stR H rfl _ _ _ rfl rfl rfl (by rfl) (by rfl) (by kernel_rfl) ?_; clear H; intro wx H) | (refine stS H rfl _ _ _ rfl rfl _ rfl (by rfl) (by rfl) (by rfl) ?_; clear H; intro wx H)) | ((with_reducible refine here_alloc ?_); first | (refine wpList_alloc_st H rfl 41 rfl _ act_zero ?_; clear H; intro gac7 wx H) | (refine wpList_alloc_st H rfl 71 rfl _ slot_zero ?_; clear H; intro gsl7 wx H)) | ((with_reducible refine here_box ?_); refine wpList_box_st H rfl _ _ rfl _ rfl ?_; clear H; intro gb7 wx H))
                exact HF.out _ 0 HC.out (H.subm _)
            · have g1 : ((y0 : Int) == 2) = false := beq_eq_false_iff_ne.2 hk2
              obtain ⟨bb, hb⟩ : ∃ bb, decide (([0, y1, y2, y3, y4, y5, y6, y7, y8, y9, y10] : List Int) = List.replicate 11 0) = bb := ⟨_, rfl⟩
              have NE := fun W : World => act_ne 0 y1 y2 y3 y4 y5 y6 y7 y8 y9 y10 W
              rw [hb] at NE
              have HC := Lib.hid (show checkR vs = if decide (([0, y1, y2, y3, y4, y5, y6, y7, y8, y9, y10] : List Int) = List.replicate 11 0) = true then 0 else 3 from by
                unfold checkR
                rw [HR.out]
                dsimp only
                rw [if_neg (by simp), if_neg (by rw [HANY.out]; simp), HY.out]
                rw [if_neg (show ¬ ([y0, y1, y2, y3, y4, y5, y6, y7, y8, y9, y10] : List Int).getD 0 0 = 2 from hk2)]
                simp only [decide_eq_true_eq]
                rfl)
              rw [hb] at HC
              have HK2 := Lib.hid hk2
              clear hb hk2
              cases bb
              · go_wp2_with (first | ((with_reducible refine here_load ?_); first | refine ldR H rfl _ _ rfl rfl (by kernel_rfl) ?_ | refine ldS H rfl _ _ rfl rfl (by rfl) ?_ | refine ldSG H (by rfl) _ _ rfl rfl (by rfl) ?_ | refine ldRG H (by rfl) _ _ rfl rfl (by kernel_rfl) ?_) | ((with_reducible refine here_store ?_); first | (refine stR H rfl _ _ _ rfl rfl rfl (by rfl) (by rfl) (by kernel_rfl) ?_; clear H; intro wx H) | (refine stS H rfl _ _ _ rfl rfl _ rfl (by rfl) (by rfl) (by rfl) ?_; clear H; intro wx H)) | ((with_reducible refine here_alloc ?_); first | (refine wpList_alloc_st H rfl 41 rfl _ act_zero ?_; clear H; intro gac7 wx H) | (refine wpList_alloc_st H rfl 71 rfl _ slot_zero ?_; clear H; intro gsl7 wx H)) | ((with_reducible refine here_box ?_); refine wpList_box_st H rfl _ _ rfl _ rfl ?_; clear H; intro gb7 wx H))
                exact HF.out _ 3 HC.out (H.subm _)
              · go_wp2_with (first | ((with_reducible refine here_load ?_); first | refine ldR H rfl _ _ rfl rfl (by kernel_rfl) ?_ | refine ldS H rfl _ _ rfl rfl (by rfl) ?_ | refine ldSG H (by rfl) _ _ rfl rfl (by rfl) ?_ | refine ldRG H (by rfl) _ _ rfl rfl (by kernel_rfl) ?_) | ((with_reducible refine here_store ?_); first | (refine stR H rfl _ _ _ rfl rfl rfl (by rfl) (by rfl) (by kernel_rfl) ?_; clear H; intro wx H) | (refine stS H rfl _ _ _ rfl rfl _ rfl (by rfl) (by rfl) (by rfl) ?_; clear H; intro wx H)) | ((with_reducible refine here_alloc ?_); first | (refine wpList_alloc_st H rfl 41 rfl _ act_zero ?_; clear H; intro gac7 wx H) | (refine wpList_alloc_st H rfl 71 rfl _ slot_zero ?_; clear H; intro gsl7 wx H)) | ((with_reducible refine here_box ?_); refine wpList_box_st H rfl _ _ rfl _ rfl ?_; clear H; intro gb7 wx H))
                exact HF.out _ 0 HC.out (H.subm _)


end Go.Proofs.YtjakmpkfniangaaDoor
