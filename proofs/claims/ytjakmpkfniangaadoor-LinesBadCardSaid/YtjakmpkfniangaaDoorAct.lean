/- lines.act at any line. -/
import Derived.Test.YtjakmpkfniangaaDoorKind
import Derived.Lib.SplitLaws
namespace Go.Proofs.YtjakmpkfniangaaDoor
open Go.RowKit

set_option linter.unusedVariables false
open Go.Lib
theorem sc_str : (match Tryd.prog.underlying 9 with | some (.struct _) | some (.array _ _) | none => true | _ => false) = false := by kernel_rfl
instance scTy_str : ScTy 9 := ⟨by kernel_rfl, by kernel_rfl⟩
def sCells (ws : List ByteArray) : Array Value := (ws.map Value.string).toArray
theorem sCells_at (ws : List ByteArray) (j : Nat) (s : ByteArray) (h : ws[j]? = some s) : (sCells ws).toList[j]? = some (.string s) := by
  simp [sCells, h]
theorem iCells_one (vs : List Int) : (iCells vs).all (·.oneCell') = true := by
  simp [iCells, Value.oneCell']
/-- the i-th number is read -/
def stepA (ws : List ByteArray) (vs : List Int) (i : Nat) (s : Nat × Int) : List Int := if i + 1 < ws.length then vs.set s.1 (atoiV (ws.getD (i + 1) ⟨#[]⟩)) else vs
def actAcc (ws : List ByteArray) (vs : List Int) (i : Nat) : List (Nat × Int) → List Int
  | [] => vs
  | s :: ss => actAcc ws (stepA ws vs i s) (i + 1) ss
theorem actAcc_snoc (ws : List ByteArray) (vs : List Int) (i : Nat) (ss : List (Nat × Int)) (s : Nat × Int) : actAcc ws vs i (ss ++ [s]) = stepA ws (actAcc ws vs i ss) (i + ss.length) s := by
  induction ss generalizing vs i with
  | nil => rfl
  | cons x ss ih =>
    show actAcc ws (stepA ws vs i x) (i + 1) (ss ++ [s]) = _
    rw [ih, List.length_cons, show i + 1 + ss.length = i + (ss.length + 1) by omega]
    rfl
theorem stepA_len (ws : List ByteArray) (vs : List Int) (i : Nat) (s : Nat × Int) : (stepA ws vs i s).length = vs.length := by
  unfold stepA
  split
  · simp
  · rfl
theorem actAcc_len (ws : List ByteArray) (vs : List Int) (i : Nat) (ss : List (Nat × Int)) : (actAcc ws vs i ss).length = vs.length := by
  induction ss generalizing vs i with
  | nil => rfl
  | cons x ss ih =>
    show (actAcc ws (stepA ws vs i x) (i + 1) ss).length = _
    rw [ih, stepA_len]
/-- a line without its end -/
def trimR (s : ByteArray) : ByteArray := ⟨(trimSuffix s.data.toList [10]).toArray⟩
/-- what is made of words -/
def actW (ws : List ByteArray) : List Int := actAcc ws (kindR (ws.getD 0 ⟨#[]⟩)) 0 (formR ((kindR (ws.getD 0 ⟨#[]⟩)).getD 0 0) ((kindR (ws.getD 0 ⟨#[]⟩)).getD 5 0)).2.1
/-- the act of a line, as far as it can be read -/
def actR (s : ByteArray) : List Int := actW (wordsR (trimR s))
theorem bareL_len (k e : Int) : (bareL k e).length = 11 := rfl
theorem kindR_len (w : ByteArray) : (kindR w).length = 11 := by
  unfold kindR
  split <;> rfl
theorem wordsR_len (s : ByteArray) : (wordsR s).length = countB s ⟨#[32]⟩ + 1 := splitB_all _ (by decide) _ _ _ rfl
theorem trimR_size (s : ByteArray) : (trimR s).size ≤ s.size := by
  unfold trimR trimSuffix
  rw [baSize]
  have h : s.size = s.data.toList.length := Lib.size_eq s
  split
  · rw [List.length_take]
    omega
  · omega
theorem splitB_sizes (sep : ByteArray) : ∀ (k : Nat) (s : ByteArray), ∀ x ∈ splitB sep 0 k s, x.size ≤ s.size := by
  intro k
  induction k with
  | zero =>
    intro s x hx
    rw [splitB_zero, List.mem_singleton] at hx
    rw [hx]
    exact Nat.le_refl _
  | succ k ih =>
    intro s x hx
    unfold splitB at hx
    split at hx
    · rw [List.mem_singleton] at hx
      rw [hx]
      exact Nat.le_refl _
    · rcases List.mem_cons.1 hx with rfl | hx
      · rw [ByteArray.size_extract]
        omega
      · have := ih _ _ hx
        rw [ByteArray.size_extract] at this
        omega
theorem trim_st {w0 w : World} {I : List It} (s : ByteArray) (hs : s.size < 4294967281) (H : St w0 w I) :
    Calls Tryd.prog 22 #[.string s, .string ⟨#[10]⟩] w (fun ed w' => ed = .returned (.string (trimR s)) ∧ St w0 w' I) :=
  (Lay.strings_TrimSuffix s ⟨#[10]⟩ w (by omega)).mono fun ed w' h => by
    obtain ⟨rfl, rfl⟩ := h
    exact ⟨rfl, H⟩
set_option maxRecDepth 100000 in
set_option maxHeartbeats 8000000 in
theorem act_st {w0 w : World} {I : List It} (L : LibW w0) (s : ByteArray) (hs : s.size < 4294967281) (H : St w0 w I) :
    Calls Tryd.prog 12 #[.string s] w (fun ed w' => ed = .returned (.agg (iCells (actR s))) ∧ St w0 w' I) := by
  have HF := Lib.hid (fun W c (hc : actR s = c) (h : St w0 W I) => (show (fun ed w' => ed = Ending.returned (.agg (iCells (actR s))) ∧ St w0 w' I) (Ending.returned (.agg (iCells c))) W from ⟨by rw [hc], h⟩))
  generalize (fun ed w' => ed = Ending.returned (.agg (iCells (actR s))) ∧ St w0 w' I) = POST at *
  have htr := trimR_size s
  obtain ⟨tr, htr0⟩ : ∃ tr, trimR s = tr := ⟨_, rfl⟩
  obtain ⟨ws, hws⟩ : ∃ ws, wordsR tr = ws := ⟨_, rfl⟩
  have hlen := wordsR_len tr
  obtain ⟨p, hp⟩ : ∃ p, countB tr ⟨#[32]⟩ = p := ⟨_, rfl⟩
  rw [hws, hp] at hlen
  rw [htr0] at htr
  have hwsz : ∀ x ∈ ws, x.size ≤ 281474976710656 := fun x hx => by
    have := splitB_sizes ⟨#[32]⟩ (countB tr ⟨#[32]⟩) tr x (by unfold wordsR at hws; rw [hws]; exact hx)
    omega
  obtain ⟨w1, hw1⟩ : ∃ w1, ws.getD 0 ⟨#[]⟩ = w1 := ⟨_, rfl⟩
  have hw1g : ws[0]? = some w1 := by
    cases ws with
    | nil => simp at hlen
    | cons y ys => simpa using hw1
  obtain ⟨vs, hvs⟩ : ∃ vs, kindR w1 = vs := ⟨_, rfl⟩
  have hvl : vs.length = 11 := by rw [← hvs]; exact kindR_len _
  obtain ⟨wd, ss, ok, hr⟩ : ∃ wd ss ok, formR (vs.getD 0 0) (vs.getD 5 0) = (wd, ss, ok) := ⟨_, _, _, rfl⟩
  have hfin : actR s = actAcc ws vs 0 ss := by
    unfold actR actW
    rw [htr0, hws, hw1, hvs, hr]
  have hn5 := formR_len (vs.getD 0 0) (vs.getD 5 0)
  have hoff := formR_off (vs.getD 0 0) (vs.getD 5 0)
  rw [hr] at hn5 hoff
  dsimp only at hn5 hoff
  obtain ⟨n, hn⟩ : ∃ n, ss.length = n := ⟨_, rfl⟩
  rw [hn] at hn5
  have CT := Lib.hid (fun W J (H : St w0 W J) => trim_st (w0 := w0) (w := W) (I := J) s (by omega) H)
  have CS := Lib.hid (fun W J (H : St w0 W J) => split_st (w0 := w0) (w := W) (I := J) L tr (by omega) H)
  rw [htr0] at CT
  rw [hws, hp] at CS
  have CK := Lib.hid (fun W J (H : St w0 W J) => kind_st (w0 := w0) (w := W) (I := J) w1 H)
  rw [hvs] at CK
  have CF := Lib.hid (fun W J g (H : St w0 W J) (hm : HasB J g 41 (iCells vs)) => form_i (hm := hm) (w0 := w0) (w := W) (I := J) g vs hvl wd ss ok n hr hn H)
  have CA := Lib.hid (fun W J x (hx : x ∈ ws) (H : St w0 W J) => atoi_st (w0 := w0) (w := W) (I := J) L x (hwsz x hx) H)
  have HFIN := Lib.hid hfin
  have HLEN := Lib.hid hlen
  have HVL := Lib.hid hvl
  have HC1 := Lib.hid (show (iCells vs).size = 11 from by rw [iCells_size, hvl])
  have HC2 := Lib.hid (show 11 = (iCells vs).size from by rw [iCells_size, hvl])
  have HC3 := Lib.hid (iCells_one vs)
  have HC4 := Lib.hid (show (iCells (actAcc ws vs 0 ss)).size = 11 from by rw [iCells_size, actAcc_len, hvl])
  have HC5 := Lib.hid (show 11 = (iCells (actAcc ws vs 0 ss)).size from by rw [iCells_size, actAcc_len, hvl])
  have HC6 := Lib.hid (iCells_one (actAcc ws vs 0 ss))
  have HN := Lib.hid hn
  have HOFF := Lib.hid hoff
  have HW1 := Lib.hid (sCells_at ws 0 w1 hw1g)
  have hp63 : p < 4294967281 := by
    have := countB_le ⟨#[32]⟩ (by decide) tr.size tr (Nat.le_refl _)
    omega
  have p0 : (0 : Int) < (p : Int) + 1 := by omega
  clear htr htr0 hws hlen hp hwsz hw1 hw1g hvs hvl hr hfin hoff hn L hs
  go_enter Tryd.func12, Tryd.ntmps12
  go_upto_region 1 with (first | ((with_reducible refine here_alloc ?_); refine wpList_alloc_st H rfl 41 rfl _ act_zero ?_; clear H; intro g2 wx H) | (first | ((with_reducible refine here_load ?_); first | refine ldR H rfl _ _ rfl rfl (by kernel_rfl) ?_ | refine ldS H rfl _ _ rfl rfl (by rfl) ?_ | refine ldSG H (by rfl) _ _ rfl rfl (by rfl) ?_ | refine ldRG H (by rfl) _ _ rfl rfl (by kernel_rfl) ?_) | ((with_reducible refine here_store ?_); first | (refine stR H rfl _ _ _ rfl rfl rfl (by rfl) (by rfl) (by kernel_rfl) ?_; clear H; intro wx H) | (refine stS H rfl _ _ _ rfl rfl _ rfl (by rfl) (by rfl) (by rfl) ?_; clear H; intro wx H)) | ((with_reducible refine here_alloc ?_); first | (refine wpList_alloc_st H rfl 41 rfl _ act_zero ?_; clear H; intro gac1 wx H) | (refine wpList_alloc_st H rfl 71 rfl _ slot_zero ?_; clear H; intro gsl1 wx H)) | ((with_reducible refine here_box ?_); refine wpList_box_st H rfl _ _ rfl _ rfl ?_; clear H; intro gb1 wx H)))
  (try simp only [Act.put])
  go_upto_region 2 with (first | (go_at_call 22; (with_reducible refine (CT.out _ _ H).mono ?_); clear H; rintro ed wy ⟨rfl, H⟩) | (go_at_call 21; (with_reducible refine (CS.out _ _ H).mono ?_); clear H; rintro ed wz ⟨gw, rfl, H⟩) | (first | ((with_reducible refine here_load ?_); first | refine ldR H rfl _ _ rfl rfl (by kernel_rfl) ?_ | refine ldS H rfl _ _ rfl rfl (by rfl) ?_ | refine ldSG H (by rfl) _ _ rfl rfl (by rfl) ?_ | refine ldRG H (by rfl) _ _ rfl rfl (by kernel_rfl) ?_) | ((with_reducible refine here_store ?_); first | (refine stR H rfl _ _ _ rfl rfl rfl (by rfl) (by rfl) (by kernel_rfl) ?_; clear H; intro wx H) | (refine stS H rfl _ _ _ rfl rfl _ rfl (by rfl) (by rfl) (by rfl) ?_; clear H; intro wx H)) | ((with_reducible refine here_alloc ?_); first | (refine wpList_alloc_st H rfl 41 rfl _ act_zero ?_; clear H; intro gac2 wx H) | (refine wpList_alloc_st H rfl 71 rfl _ slot_zero ?_; clear H; intro gsl2 wx H)) | ((with_reducible refine here_box ?_); refine wpList_box_st H rfl _ _ rfl _ rfl ?_; clear H; intro gb2 wx H)))
  (try simp only [Act.put])
  replace H : St w0 wz (.bl gw 9 (sCells ws) :: .bl g2 41 (iCells (bareL 0 0)) :: I) := H
  go_upto_region 3 with (first | (go_at_call 23; (with_reducible refine (CK.out _ _ H).mono ?_); clear H; rintro ed wk ⟨rfl, H⟩) | ((with_reducible refine here_alloc ?_); refine wpList_alloc_st H rfl 41 rfl _ act_zero ?_; clear H; intro g4 wx H) | ((with_reducible refine here_load ?_); refine ldS (j := 0) H rfl _ _ rfl rfl HW1.out ?_) | ((with_reducible refine here_store ?_); refine stR H rfl _ _ _ rfl rfl rfl HC1.out (by exact HC2.out) HC3.out ?_; clear H; intro wx H) | (first | ((with_reducible refine here_load ?_); first | refine ldR H rfl _ _ rfl rfl (by kernel_rfl) ?_ | refine ldS H rfl _ _ rfl rfl (by rfl) ?_ | refine ldSG H (by rfl) _ _ rfl rfl (by rfl) ?_ | refine ldRG H (by rfl) _ _ rfl rfl (by kernel_rfl) ?_) | ((with_reducible refine here_store ?_); first | (refine stR H rfl _ _ _ rfl rfl rfl (by rfl) (by rfl) (by kernel_rfl) ?_; clear H; intro wx H) | (refine stS H rfl _ _ _ rfl rfl _ rfl (by rfl) (by rfl) (by rfl) ?_; clear H; intro wx H)) | ((with_reducible refine here_alloc ?_); first | (refine wpList_alloc_st H rfl 41 rfl _ act_zero ?_; clear H; intro gac3 wx H) | (refine wpList_alloc_st H rfl 71 rfl _ slot_zero ?_; clear H; intro gsl3 wx H)) | ((with_reducible refine here_box ?_); refine wpList_box_st H rfl _ _ rfl _ rfl ?_; clear H; intro gb3 wx H)))
  (try simp only [Act.put])
  go_upto_region 4 with (first | (go_at_call 24; (with_reducible refine (CF.out _ _ g4 H inferInstance).mono ?_); clear H; rintro ed wy ⟨A, rfl, H⟩) | (first | ((with_reducible refine here_load ?_); first | refine ldR H rfl _ _ rfl rfl (by kernel_rfl) ?_ | refine ldS H rfl _ _ rfl rfl (by rfl) ?_ | refine ldSG H (by rfl) _ _ rfl rfl (by rfl) ?_ | refine ldRG H (by rfl) _ _ rfl rfl (by kernel_rfl) ?_) | ((with_reducible refine here_store ?_); first | (refine stR H rfl _ _ _ rfl rfl rfl (by rfl) (by rfl) (by kernel_rfl) ?_; clear H; intro wx H) | (refine stS H rfl _ _ _ rfl rfl _ rfl (by rfl) (by rfl) (by rfl) ?_; clear H; intro wx H)) | ((with_reducible refine here_alloc ?_); first | (refine wpList_alloc_st H rfl 41 rfl _ act_zero ?_; clear H; intro gac4 wx H) | (refine wpList_alloc_st H rfl 71 rfl _ slot_zero ?_; clear H; intro gsl4 wx H)) | ((with_reducible refine here_box ?_); refine wpList_box_st H rfl _ _ rfl _ rfl ?_; clear H; intro gb4 wx H)))
  (try simp only [Act.put])
  go_upto_region 5 with (first | ((with_reducible refine here_load ?_); first | refine ldR H rfl _ _ rfl rfl (by kernel_rfl) ?_ | refine ldS H rfl _ _ rfl rfl (by rfl) ?_ | refine ldSG H (by rfl) _ _ rfl rfl (by rfl) ?_ | refine ldRG H (by rfl) _ _ rfl rfl (by kernel_rfl) ?_) | ((with_reducible refine here_store ?_); first | (refine stR H rfl _ _ _ rfl rfl rfl (by rfl) (by rfl) (by kernel_rfl) ?_; clear H; intro wx H) | (refine stS H rfl _ _ _ rfl rfl _ rfl (by rfl) (by rfl) (by rfl) ?_; clear H; intro wx H)) | ((with_reducible refine here_alloc ?_); first | (refine wpList_alloc_st H rfl 41 rfl _ act_zero ?_; clear H; intro gac5 wx H) | (refine wpList_alloc_st H rfl 71 rfl _ slot_zero ?_; clear H; intro gsl5 wx H)) | ((with_reducible refine here_box ?_); refine wpList_box_st H rfl _ _ rfl _ rfl ?_; clear H; intro gb5 wx H))
  replace H : St w0 wy (.bl g4 41 (iCells vs) :: slIt g4 A ss :: .bl gw 9 (sCells ws) :: .bl g2 41 (iCells (bareL 0 0)) :: I) := H.subm _
  replace H : St w0 wy (.bl g4 41 (iCells (actAcc ws vs 0 (ss.take 0))) :: slIt g4 A ss :: .bl gw 9 (sCells ws) :: .bl g2 41 (iCells (bareL 0 0)) :: I) := H
  go_loopw [24] (fun s24 wr => ∃ k : Nat, k ≤ n ∧ s24 = .int .i64 k ∧ St w0 wr (.bl g4 41 (iCells (actAcc ws vs 0 (ss.take k))) :: slIt g4 A ss :: .bl gw 9 (sCells ws) :: .bl g2 41 (iCells (bareL 0 0)) :: I)) (fun s24 _ => n - (RowKit.intOf s24).toNat)
  case atStart => exact ⟨0, by omega, rfl, H⟩
  case round =>
    clear H
    obtain ⟨k, hk, rfl, H⟩ := hrel
    have k0 : (0 : Int) ≤ (k : Int) := by omega
    have wk : IntKind.i64.wrap ((k : Int) + 1) = (k : Int) + 1 := IntWalk.i64_in _ (by omega)
    by_cases hlt : k < n
    · have k1 : (k : Int) < (n : Int) := by omega
      have hjl : k < ss.length := by rw [HN.out]; exact hlt
      obtain ⟨b8, o8, hA8, hb8, q0, q1⟩ := slotAt (H.get (slIt g4 A ss)) rfl hjl
      subst hA8
      obtain ⟨⟨off, most⟩, hs⟩ : ∃ s, ss.getD k (0, 0) = s := ⟨_, rfl⟩
      have hmem : ss.getD k (0, 0) ∈ ss := by
        rw [List.getD, List.getElem?_eq_getElem hjl]
        exact List.getElem_mem _
      have htk : ss.take (k + 1) = ss.take k ++ [(off, most)] := by
        rw [List.take_add_one, List.getElem?_eq_getElem hjl, ← hs]
        simp [List.getD, List.getElem?_eq_getElem hjl]
      rw [hs] at q0 q1 hmem
      have hoff := HOFF.out _ hmem
      dsimp only at q0 q1 hoff
      obtain ⟨us, hus⟩ : ∃ us, actAcc ws vs 0 (ss.take k) = us := ⟨_, rfl⟩
      have hul : us.length = 11 := by rw [← hus, actAcc_len]; exact HVL.out
      have hnx : actAcc ws vs 0 (ss.take (k + 1)) = stepA ws us k (off, most) := by
        rw [htk, actAcc_snoc, hus, List.length_take, Nat.min_eq_left (by omega), Nat.zero_add]
      rw [hus] at H
      have HLT := Lib.hid hlt
      clear hs hmem hb8 hlt hk hjl htk hus
      go_upto_region 7 with (first | ((with_reducible refine here_alloc ?_); refine wpList_alloc_st H rfl 71 rfl _ slot_zero ?_; clear H; intro g7 wx H) | (first | ((with_reducible refine here_load ?_); first | refine ldR H rfl _ _ rfl rfl (by kernel_rfl) ?_ | refine ldS H rfl _ _ rfl rfl (by rfl) ?_ | refine ldSG H (by rfl) _ _ rfl rfl (by rfl) ?_ | refine ldRG H (by rfl) _ _ rfl rfl (by kernel_rfl) ?_) | ((with_reducible refine here_store ?_); first | (refine stR H rfl _ _ _ rfl rfl rfl (by rfl) (by rfl) (by kernel_rfl) ?_; clear H; intro wx H) | (refine stS H rfl _ _ _ rfl rfl _ rfl (by rfl) (by rfl) (by rfl) ?_; clear H; intro wx H)) | ((with_reducible refine here_alloc ?_); first | (refine wpList_alloc_st H rfl 41 rfl _ act_zero ?_; clear H; intro gac6 wx H) | (refine wpList_alloc_st H rfl 71 rfl _ slot_zero ?_; clear H; intro gsl6 wx H)) | ((with_reducible refine here_box ?_); refine wpList_box_st H rfl _ _ rfl _ rfl ?_; clear H; intro gb6 wx H)))
      (try simp only [Act.put])
      by_cases hlw : k + 1 < ws.length
      · have l1 : (k : Int) + 1 < (p : Int) + 1 := by have := HLEN.out; omega
        have l0 : (0 : Int) ≤ (k : Int) + 1 := by omega
        obtain ⟨x, hx⟩ : ∃ x, ws[k + 1]? = some x := ⟨_, List.getElem?_eq_getElem hlw⟩
        have HXM := Lib.hid (show x ∈ ws from List.mem_of_getElem? hx)
        have HX := Lib.hid (sCells_at ws (k + 1) x hx)
        have HSZ := Lib.hid (show Nat.blt off (iCells us).size = true from by rw [iCells_size, hul, Nat.blt_eq]; exact hoff)
        have HNX := Lib.hid (show (iCells us).setIfInBounds off (.int .i64 (atoiV x)) = iCells (actAcc ws vs 0 (ss.take (k + 1))) from by
          rw [iCells_set, hnx]
          unfold stepA
          rw [if_pos hlw, List.getD, hx]
          rfl)
        clear hx hul hnx hoff hlw
        go_upto_region 8 with (first | ((with_reducible refine here_load ?_); first | refine ldR H rfl _ _ rfl rfl (by kernel_rfl) ?_ | refine ldS H rfl _ _ rfl rfl (by rfl) ?_ | refine ldSG H (by rfl) _ _ rfl rfl (by rfl) ?_ | refine ldRG H (by rfl) _ _ rfl rfl (by kernel_rfl) ?_) | ((with_reducible refine here_store ?_); first | (refine stR H rfl _ _ _ rfl rfl rfl (by rfl) (by rfl) (by kernel_rfl) ?_; clear H; intro wx H) | (refine stS H rfl _ _ _ rfl rfl _ rfl (by rfl) (by rfl) (by rfl) ?_; clear H; intro wx H)) | ((with_reducible refine here_alloc ?_); first | (refine wpList_alloc_st H rfl 41 rfl _ act_zero ?_; clear H; intro gac7 wx H) | (refine wpList_alloc_st H rfl 71 rfl _ slot_zero ?_; clear H; intro gsl7 wx H)) | ((with_reducible refine here_box ?_); refine wpList_box_st H rfl _ _ rfl _ rfl ?_; clear H; intro gb7 wx H))
        (try simp only [Act.put])
        refine startS (H.subm (.bl g7 71 #[.pointer (some ⟨g4, off, none⟩), .int .i64 most] :: slIt g4 (some ⟨b8, o8, none⟩) ss :: .bl gw 9 (sCells ws) :: .bl g2 41 (iCells (bareL 0 0)) :: I)) (by kernel_rfl) (fun HS => ?_)
        replace H := H.drew
        refine takeV (i := 0) (v := ?_) rfl (by kernel_rfl) (by kernel_rfl) (by kernel_rfl) (fun _ _ _ h => h) (by rfl) ?_ HS ?_
        rotate_left
        · (intro W hW; go_simp; try with_reducible rfl)
        (try simp only [Act.put, List.setIfInBounds_toArray, List.set_cons_zero, List.set_cons_succ])
        refine take1_st (i := 1) 69 _ rfl rfl rfl sc_pint _ (by rfl) (by kernel_rfl) (by kernel_rfl) (by kernel_rfl) (fun _ _ _ _ h => h) (by rfl) HS ?_
        (try simp only [Act.put, List.setIfInBounds_toArray, List.set_cons_zero, List.set_cons_succ])
        refine takeMove (i := 2) rfl rfl _ (by rfl) (by kernel_rfl) (by kernel_rfl) (by kernel_rfl) (fun _ _ _ _ h => h) (by rfl) HS ?_
        (try simp only [Act.put, List.setIfInBounds_toArray, List.set_cons_zero, List.set_cons_succ])
        refine takeMove (i := 3) rfl rfl _ (by rfl) (by kernel_rfl) (by kernel_rfl) (by kernel_rfl) (fun _ _ _ _ h => h) (by rfl) HS ?_
        (try simp only [Act.put, List.setIfInBounds_toArray, List.set_cons_zero, List.set_cons_succ])
        refine takeV (i := 4) (v := ?_) rfl (by kernel_rfl) (by kernel_rfl) (by kernel_rfl) (fun _ _ _ h => h) (by rfl) ?_ HS ?_
        rotate_left
        · (intro W hW; go_simp; try with_reducible rfl)
        (try simp only [Act.put, List.setIfInBounds_toArray, List.set_cons_zero, List.set_cons_succ])
        refine takeV (i := 5) (v := ?_) rfl (by kernel_rfl) (by kernel_rfl) (by kernel_rfl) (fun _ _ _ h => h) (by rfl) ?_ HS ?_
        rotate_left
        · (intro W hW; go_simp; try with_reducible rfl)
        (try simp only [Act.put, List.setIfInBounds_toArray, List.set_cons_zero, List.set_cons_succ])
        refine take1_st (i := 6) (j := k + 1) 9 _ rfl rfl rfl sc_str _ HX.out (by kernel_rfl) (by kernel_rfl) (by kernel_rfl) (fun _ _ _ _ h => h) (by rfl) HS ?_
        (try simp only [Act.put, List.setIfInBounds_toArray, List.set_cons_zero, List.set_cons_succ])
        refine branchH [7] (by kernel_rfl) (by kernel_rfl) (AllStep.cons ?_ AllStep.nil)
        refine stepH_do (i := 7) rfl (by rfl) ?_
        refine wp_call_st rfl Tryd.func25 (by kernel_rfl) (by kernel_rfl) [.string x] rfl ((CA.out _ _ x HXM.out H).mono ?_)
        clear H
        rintro ed wy ⟨⟨er, rfl⟩, H⟩
        replace HS := HS.of H
        refine ⟨_, rfl, HS, ?_⟩
        (try simp only [Act.put, List.setIfInBounds_toArray, List.set_cons_zero, List.set_cons_succ])
        refine takeMove (i := 8) rfl rfl _ (by rfl) (by kernel_rfl) (by kernel_rfl) (by kernel_rfl) (fun _ _ _ _ h => h) (by rfl) HS ?_
        (try simp only [Act.put, List.setIfInBounds_toArray, List.set_cons_zero, List.set_cons_succ])
        refine takeExtract (i := 9) rfl rfl _ _ (by rfl) (by rfl) (by kernel_rfl) (by kernel_rfl) (by kernel_rfl) (fun _ _ _ _ h => h) (by rfl) HS ?_
        (try simp only [Act.put, List.setIfInBounds_toArray, List.set_cons_zero, List.set_cons_succ])
        refine takeExtract (i := 10) rfl rfl _ _ (by rfl) (by rfl) (by kernel_rfl) (by kernel_rfl) (by kernel_rfl) (fun _ _ _ _ h => h) (by rfl) HS ?_
        (try simp only [Act.put, List.setIfInBounds_toArray, List.set_cons_zero, List.set_cons_succ])
        refine takeV (i := 11) (v := ?_) rfl (by kernel_rfl) (by kernel_rfl) (by kernel_rfl) (fun _ _ _ h => h) (by rfl) ?_ HS ?_
        rotate_left
        · (intro W hW; go_simp; try with_reducible rfl)
        (try simp only [Act.put, List.setIfInBounds_toArray, List.set_cons_zero, List.set_cons_succ])
        refine branchH [12] (by kernel_rfl) (by kernel_rfl) (AllStep.cons ?_ AllStep.nil)
        refine stepH_do (i := 12) rfl (by rfl) ?_
        refine wp_store1_st (j := off) H 3 _ _ rfl rfl _ rfl rfl _ HNX.out s1_int HSZ.out rfl ?_
        clear H
        intro wx H
        replace HS := HS.of H
        refine ⟨HS, ?_⟩
        (try simp only [Act.put])
        refine doneH (by kernel_rfl) ?_
        go_wp2_with (first | ((with_reducible refine here_load ?_); first | refine ldR H rfl _ _ rfl rfl (by kernel_rfl) ?_ | refine ldS H rfl _ _ rfl rfl (by rfl) ?_ | refine ldSG H (by rfl) _ _ rfl rfl (by rfl) ?_ | refine ldRG H (by rfl) _ _ rfl rfl (by kernel_rfl) ?_) | ((with_reducible refine here_store ?_); first | (refine stR H rfl _ _ _ rfl rfl rfl (by rfl) (by rfl) (by kernel_rfl) ?_; clear H; intro wx H) | (refine stS H rfl _ _ _ rfl rfl _ rfl (by rfl) (by rfl) (by rfl) ?_; clear H; intro wx H)) | ((with_reducible refine here_alloc ?_); first | (refine wpList_alloc_st H rfl 41 rfl _ act_zero ?_; clear H; intro gac8 wx H) | (refine wpList_alloc_st H rfl 71 rfl _ slot_zero ?_; clear H; intro gsl8 wx H)) | ((with_reducible refine here_box ?_); refine wpList_box_st H rfl _ _ rfl _ rfl ?_; clear H; intro gb8 wx H))
        go_roundw
        case rel => exact ⟨k + 1, by have := HLT.out; omega, by go_num, H.subm _⟩
        case measure => have := HLT.out; simp [RowKit.intOf] <;> omega
      · have l1 : ¬ (k : Int) + 1 < (p : Int) + 1 := by have := HLEN.out; omega
        have HNX := Lib.hid (show actAcc ws vs 0 (ss.take (k + 1)) = us from by rw [hnx]; unfold stepA; rw [if_neg hlw])
        clear hul hnx hoff hlw
        go_wp2_with (first | ((with_reducible refine here_load ?_); first | refine ldR H rfl _ _ rfl rfl (by kernel_rfl) ?_ | refine ldS H rfl _ _ rfl rfl (by rfl) ?_ | refine ldSG H (by rfl) _ _ rfl rfl (by rfl) ?_ | refine ldRG H (by rfl) _ _ rfl rfl (by kernel_rfl) ?_) | ((with_reducible refine here_store ?_); first | (refine stR H rfl _ _ _ rfl rfl rfl (by rfl) (by rfl) (by kernel_rfl) ?_; clear H; intro wx H) | (refine stS H rfl _ _ _ rfl rfl _ rfl (by rfl) (by rfl) (by rfl) ?_; clear H; intro wx H)) | ((with_reducible refine here_alloc ?_); first | (refine wpList_alloc_st H rfl 41 rfl _ act_zero ?_; clear H; intro gac8 wx H) | (refine wpList_alloc_st H rfl 71 rfl _ slot_zero ?_; clear H; intro gsl8 wx H)) | ((with_reducible refine here_box ?_); refine wpList_box_st H rfl _ _ rfl _ rfl ?_; clear H; intro gb8 wx H))
        go_roundw
        case rel => exact ⟨k + 1, by have := HLT.out; omega, by go_num, by rw [HNX.out]; exact H.subm _⟩
        case measure => have := HLT.out; simp [RowKit.intOf] <;> omega
    · obtain rfl : k = n := by omega
      have k1 : ¬ (k : Int) < (k : Int) := by omega
      have HTK := Lib.hid (show ss.take k = ss from List.take_of_length_le (Nat.le_of_eq HN.out))
      rw [HTK.out] at H
      clear hlt hk
      go_wp2_with (first | ((with_reducible refine here_load ?_); refine ldR H rfl _ _ rfl rfl HC4.out ?_) | ((with_reducible refine here_store ?_); refine stR H rfl _ _ _ rfl rfl rfl HC4.out (by exact HC5.out) HC6.out ?_; clear H; intro wx H) | (first | ((with_reducible refine here_load ?_); first | refine ldR H rfl _ _ rfl rfl (by kernel_rfl) ?_ | refine ldS H rfl _ _ rfl rfl (by rfl) ?_ | refine ldSG H (by rfl) _ _ rfl rfl (by rfl) ?_ | refine ldRG H (by rfl) _ _ rfl rfl (by kernel_rfl) ?_) | ((with_reducible refine here_store ?_); first | (refine stR H rfl _ _ _ rfl rfl rfl (by rfl) (by rfl) (by kernel_rfl) ?_; clear H; intro wx H) | (refine stS H rfl _ _ _ rfl rfl _ rfl (by rfl) (by rfl) (by rfl) ?_; clear H; intro wx H)) | ((with_reducible refine here_alloc ?_); first | (refine wpList_alloc_st H rfl 41 rfl _ act_zero ?_; clear H; intro gac9 wx H) | (refine wpList_alloc_st H rfl 71 rfl _ slot_zero ?_; clear H; intro gsl9 wx H)) | ((with_reducible refine here_box ?_); refine wpList_box_st H rfl _ _ rfl _ rfl ?_; clear H; intro gb9 wx H)))
      replace H : St w0 wx (.bl g4 41 (iCells (actAcc ws vs 0 ss)) :: .bl g2 41 (iCells (actAcc ws vs 0 ss)) :: I) := H.subm _
      have l4 : (loadVar 41 ⟨g2, 0, none⟩).run Tryd.prog wx = .ok (.agg (iCells (actAcc ws vs 0 ss))) wx := H.loadRow 41 g2 row_Act (P := Tryd.prog) (by rw [HC4.out]; kernel_rfl)
      exact bodyPost_ret (v := .agg (iCells (actAcc ws vs 0 ss))) (by simp [results, Tryd.results12, asAddr, l4]) rfl (HF.out _ _ HFIN.out (H.subm _))


end Go.Proofs.YtjakmpkfniangaaDoor
