/- lines.form: the word and the numbers of an act. -/
import Derived.Test.YtjakmpkfniangaaDoorStT
import Derived.Test.YtjakmpkfniangaaDoorChk
import Derived.Deep.RegionHeld3
import Derived.Deep.DeepCutAuto
import Derived.Deep.QuietTactic
import Derived.BigQuiet
namespace Go.Proofs.YtjakmpkfniangaaDoor
open Go.RowKit

set_option linter.unusedVariables false
theorem row_Act : (match Tryd.prog.underlying 41 with | some (.struct _) | some (.array _ _) => true | _ => false) = true := by kernel_rfl
instance rowTy_Act : RowTy 41 11 := ⟨by kernel_rfl, by kernel_rfl⟩
theorem row_Slot : (match Tryd.prog.underlying 71 with | some (.struct _) | some (.array _ _) => true | _ => false) = true := by kernel_rfl
instance rowTy_Slot : RowTy 71 2 := ⟨by kernel_rfl, by kernel_rfl⟩
theorem act_zero : (Tryd.prog.info? 41).bind (·.zero) = some (.agg #[.int .i64 0, .int .i64 0, .int .i64 0, .int .i64 0, .int .i64 0, .int .i64 0, .int .i64 0, .int .i64 0, .int .i64 0, .int .i64 0, .int .i64 0]) := by kernel_rfl
theorem slot_zero : (Tryd.prog.info? 71).bind (·.zero) = some (.agg #[.pointer none, .int .i64 0]) := by kernel_rfl
section
variable {P : Program} {o : Oper} {a : Act} {w0 w : World} {I : List It} {Q : Exit → Act → World → Prop} {K : Act → World → Prop}
/-- a new row of several elements -/
theorem wp_buildSliceR_st (H : St w0 w I) (t : TypeId) (n : Nat) (ps : Array (Nat × Operand)) (ho : o.op = .buildSlice t n ps) (e : TypeId) (cs : Array Value)
    (hrun : ∀ W : World, (Instr.buildSlice t n (ps.map fun p => (p.1, a.eval p.2))).run P W = .ok (.slice (some ⟨W.heap.size, 0, none⟩) n n) (W.alloc (.cells cs e)))
    (h : ∀ g w', St w0 w' (.bl g e cs :: I) → K (a.put o.dst (.slice (some ⟨g, 0, none⟩) n n)) w') : o.wp P a w K Q := by
  have h1 := hrun w
  unfold Oper.wp execOp
  simp only [ho, Sem.run_bind, h1, Result.andThen_ok, Sem.run_pure]
  exact h _ _ (H.box e cs)
end
theorem bs_slot2 (a b c d : Value) (W : World) : (Instr.buildSlice 65 2 #[(0, .agg #[a, b]), (1, .agg #[c, d])]).run Tryd.prog W = .ok (.slice (some ⟨W.heap.size, 0, none⟩) 2 2) (W.alloc (.cells #[a, b, c, d] 71)) := by kernel_rfl
theorem bs_slot1 (a0 a1 : Value) (W : World) : (Instr.buildSlice 65 1 #[(0, .agg #[a0, a1])]).run Tryd.prog W = .ok (.slice (some ⟨W.heap.size, 0, none⟩) 1 1) (W.alloc (.cells #[a0, a1] 71)) := by kernel_rfl
theorem bs_slot4 (a0 a1 a2 a3 a4 a5 a6 a7 : Value) (W : World) : (Instr.buildSlice 65 4 #[(0, .agg #[a0, a1]), (1, .agg #[a2, a3]), (2, .agg #[a4, a5]), (3, .agg #[a6, a7])]).run Tryd.prog W = .ok (.slice (some ⟨W.heap.size, 0, none⟩) 4 4) (W.alloc (.cells #[a0, a1, a2, a3, a4, a5, a6, a7] 71)) := by kernel_rfl
theorem bs_slot5 (a0 a1 a2 a3 a4 a5 a6 a7 a8 a9 : Value) (W : World) : (Instr.buildSlice 65 5 #[(0, .agg #[a0, a1]), (1, .agg #[a2, a3]), (2, .agg #[a4, a5]), (3, .agg #[a6, a7]), (4, .agg #[a8, a9])]).run Tryd.prog W = .ok (.slice (some ⟨W.heap.size, 0, none⟩) 5 5) (W.alloc (.cells #[a0, a1, a2, a3, a4, a5, a6, a7, a8, a9] 71)) := by kernel_rfl
/-- the numbers of an act: where they stand in it, and their bounds -/
def slotCells (g : Nat) (ss : List (Nat × Int)) : List Value := ss.flatMap fun s => [.pointer (some ⟨g, s.1, none⟩), .int .i64 s.2]
def slIt (g : Nat) (A : Option Addr) (ss : List (Nat × Int)) : It := .rd 2 A ss.length (slotCells g ss)
/-- the words of an act, its numbers, and is it one at all? -/
def formR (k e : Int) : ByteArray × List (Nat × Int) × Bool :=
  if k = 1 then (⟨#[109, 97, 107, 101]⟩, [(2, 3), (1, 4)], true)
  else if k = 10 then (⟨#[109, 111, 118, 101]⟩, [(2, 3), (1, 4)], true)
  else if k = 3 then (⟨#[115, 116, 101, 112]⟩, [(1, 4)], true)
  else if k = 9 then (⟨#[115, 116, 97, 114, 116]⟩, [(1, 4)], true)
  else if k = 8 then (⟨#[99, 114, 97, 115, 104]⟩, [(1, 4), (4, 100000)], true)
  else if k = 4 then (⟨#[99, 97, 114, 114, 121]⟩, [(3, 1048576)], true)
  else if k = 5 then (⟨#[108, 111, 115, 101]⟩, [(3, 1048576)], true)
  else if k = 6 then (⟨#[100, 111, 117, 98, 108, 101]⟩, [(3, 1048576)], true)
  else if k = 7 then (⟨#[97, 108, 108]⟩, [], true)
  else if k = 2 ∧ e = 1 then (⟨#[112, 117, 98, 108, 105, 115, 104]⟩, [(1, 4), (2, 3), (6, 3), (7, 1073741824), (8, 1000000)], true)
  else if k = 2 ∧ e = 2 then (⟨#[114, 101, 99, 101, 105, 118, 101]⟩, [(1, 4), (2, 3)], true)
  else if k = 2 ∧ e = 3 then (⟨#[97, 99, 107]⟩, [(1, 4), (2, 3), (9, 1048576), (10, 1073741824)], true)
  else (⟨#[]⟩, [], false)
def FormPost (w0 : World) (I : List It) (g : Nat) (r : ByteArray × List (Nat × Int) × Bool) (ed : Ending) (w' : World) : Prop :=
  ∃ A, ed = .returned (.tuple #[.string r.1, .slice A r.2.1.length r.2.1.length, .bool r.2.2]) ∧ St w0 w' (slIt g A r.2.1 :: I)
/-- a block of several elements, from here on only read -/
theorem St.frzN {w0 w : World} {I : List It} {g s n : Nat} {t : TypeId} {cs : Array Value} (H : St w0 w (.bl g t cs :: I)) (hs : cs.size = n * s) (hn : 0 < n) : St w0 w (.rd s (some ⟨g, 0, none⟩) n cs.toList :: I) := by
  have hb := (H.all _ (List.mem_cons_self ..)).2
  refine ⟨H.bel, fun x hx => ?_, List.pairwise_cons.2 ⟨fun z hz _ k h1 h2 => ?_, (List.pairwise_cons.1 H.apart).2⟩⟩
  · rcases List.mem_cons.1 hx with rfl | hx
    · refine ⟨by simp [hs], fun _ => ⟨_, rfl, hb.lt, fun j u hu => ?_⟩⟩
      have hadd : (⟨g, 0, none⟩ : Addr).add j = ⟨g, j, none⟩ := by unfold Addr.add; split <;> simp_all
      rw [hadd, hb.cell, ← Array.getElem?_toList]
      exact hu
    · exact H.all x (List.mem_cons_of_mem _ hx)
  · refine (List.pairwise_cons.1 H.apart).1 z hz (.inl rfl) k ?_ h2
    simp only [It.area] at h1
    rw [if_neg (by omega)] at h1
    simpa [It.area] using h1
theorem slIt_nil {w0 w : World} {I : List It} {g : Nat} (H : St w0 w I) : St w0 w (slIt g none [] :: I) := H.old (s := 2) (n := 0) (A := none) (xs := []) Reads.none_
set_option maxRecDepth 100000 in
set_option maxHeartbeats 8000000 in
theorem form_st {w0 w : World} {I : List It} (g : Nat) (k n q at_ kp e0 e1 e2 e3 e4 e5 : Int) (H : St w0 w I) [hm : HasB I g 41 #[.int .i64 k, .int .i64 n, .int .i64 q, .int .i64 at_, .int .i64 kp, .int .i64 e0, .int .i64 e1, .int .i64 e2, .int .i64 e3, .int .i64 e4, .int .i64 e5]] :
    Calls Tryd.prog 24 #[.pointer (some ⟨g, 0, none⟩)] w (FormPost w0 I g (formR k e0)) := by
  have HI := Lib.hid hm
  have HF := Lib.hid (fun W r A (hr : formR k e0 = r) (h : St w0 W (slIt g A r.2.1 :: I)) => (show FormPost w0 I g (formR k e0) (.returned (.tuple #[.string r.1, .slice A r.2.1.length r.2.1.length, .bool r.2.2])) W from by rw [hr]; exact ⟨A, rfl, h⟩))
  generalize FormPost w0 I g (formR k e0) = POST at *
  clear hm
  go_enter Tryd.func24, Tryd.ntmps24
  go_upto_region 1 with fail
  go_cut [5, 6] (fun s5 s6 wx => ∃ g5 g6, s5 = .pointer (some ⟨g5, 0, none⟩) ∧ s6 = .pointer (some ⟨g6, 0, none⟩) ∧ St w0 wx (.bl g5 71 #[.pointer (some ⟨g, 1, none⟩), .int .i64 4] :: .bl g6 71 #[.pointer (some ⟨g, 2, none⟩), .int .i64 3] :: I))
  case first =>
    refine startS H (by kernel_rfl) (fun HS => ?_)
    replace H := HS
    refine takeMove (i := 0) rfl rfl _ (by rfl) (by kernel_rfl) (by kernel_rfl) (by kernel_rfl) (fun _ _ _ _ h => h) (by rfl) HS ?_
    (try simp only [Act.put, List.setIfInBounds_toArray, List.set_cons_zero, List.set_cons_succ])
    refine takeV (i := 1) (v := ?_) rfl (by kernel_rfl) (by kernel_rfl) (by kernel_rfl) (fun _ _ _ h => h) (by rfl) ?_ HS ?_
    rotate_left
    · (intro W hW; go_simp; try with_reducible rfl)
    (try simp only [Act.put, List.setIfInBounds_toArray, List.set_cons_zero, List.set_cons_succ])
    refine takeV (i := 2) (v := ?_) rfl (by kernel_rfl) (by kernel_rfl) (by kernel_rfl) (fun _ _ _ h => h) (by rfl) ?_ HS ?_
    rotate_left
    · (intro W hW; go_simp; try with_reducible rfl)
    (try simp only [Act.put, List.setIfInBounds_toArray, List.set_cons_zero, List.set_cons_succ])
    refine takeV (i := 3) (v := ?_) rfl (by kernel_rfl) (by kernel_rfl) (by kernel_rfl) (fun _ _ _ h => h) (by rfl) ?_ HS ?_
    rotate_left
    · (intro W hW; go_simp; try with_reducible rfl)
    (try simp only [Act.put, List.setIfInBounds_toArray, List.set_cons_zero, List.set_cons_succ])
    refine takeMove (i := 4) rfl rfl _ (by rfl) (by kernel_rfl) (by kernel_rfl) (by kernel_rfl) (fun _ _ _ _ h => h) (by rfl) HS ?_
    (try simp only [Act.put, List.setIfInBounds_toArray, List.set_cons_zero, List.set_cons_succ])
    refine takeV (i := 5) (v := ?_) rfl (by kernel_rfl) (by kernel_rfl) (by kernel_rfl) (fun _ _ _ h => h) (by rfl) ?_ HS ?_
    rotate_left
    · (intro W hW; go_simp; try with_reducible rfl)
    (try simp only [Act.put, List.setIfInBounds_toArray, List.set_cons_zero, List.set_cons_succ])
    refine takeV (i := 6) (v := ?_) rfl (by kernel_rfl) (by kernel_rfl) (by kernel_rfl) (fun _ _ _ h => h) (by rfl) ?_ HS ?_
    rotate_left
    · (intro W hW; go_simp; try with_reducible rfl)
    (try simp only [Act.put, List.setIfInBounds_toArray, List.set_cons_zero, List.set_cons_succ])
    refine takeV (i := 7) (v := ?_) rfl (by kernel_rfl) (by kernel_rfl) (by kernel_rfl) (fun _ _ _ h => h) (by rfl) ?_ HS ?_
    rotate_left
    · (intro W hW; go_simp; try with_reducible rfl)
    (try simp only [Act.put, List.setIfInBounds_toArray, List.set_cons_zero, List.set_cons_succ])
    refine branchH [8, 9] (by kernel_rfl) (by kernel_rfl) (AllStep.cons ?_ (AllStep.cons ?_ AllStep.nil))
    · refine stepH_do (i := 8) rfl (by rfl) ?_
      refine wp_alloc_st H 71 rfl _ slot_zero ?_
      clear H
      intro g5 wx H
      replace HS := HS.of H
      refine ⟨HS, ?_⟩
      (try simp only [Act.put, List.setIfInBounds_toArray, List.set_cons_zero, List.set_cons_succ])
      refine branchH [9] (by kernel_rfl) (by kernel_rfl) (AllStep.cons ?_ AllStep.nil)
      refine stepH_do (i := 9) rfl (by rfl) ?_
      refine wp_alloc_st H 71 rfl _ slot_zero ?_
      clear H
      intro g6 wx H
      replace HS := HS.of H
      refine ⟨HS, ?_⟩
      (try simp only [Act.put, List.setIfInBounds_toArray, List.set_cons_zero, List.set_cons_succ])
      refine branchH [10] (by kernel_rfl) (by kernel_rfl) (AllStep.cons ?_ AllStep.nil)
      refine stepH_do (i := 10) rfl (by rfl) ?_
      refine wp_store_st H 71 _ _ rfl rfl rfl (by kernel_rfl) (by rfl) (by kernel_rfl) ?_
      clear H
      intro wx H
      replace HS := HS.of H
      refine ⟨HS, ?_⟩
      (try simp only [Act.put])
      refine branchH [11] (by kernel_rfl) (by kernel_rfl) (AllStep.cons ?_ AllStep.nil)
      refine stepH_do (i := 11) rfl (by rfl) ?_
      refine wp_store_st H 71 _ _ rfl rfl rfl (by kernel_rfl) (by rfl) (by kernel_rfl) ?_
      clear H
      intro wx H
      replace HS := HS.of H
      refine ⟨HS, ?_⟩
      (try simp only [Act.put])
      refine doneH (by kernel_rfl) ?_
      go_wp2_with fail
      go_meet
      exact ⟨g5, g6, rfl, rfl, H.subm _⟩
    · refine stepH_do (i := 9) rfl (by rfl) ?_
      refine wp_alloc_st H 71 rfl _ slot_zero ?_
      clear H
      intro g6 wx H
      replace HS := HS.of H
      refine ⟨HS, ?_⟩
      (try simp only [Act.put, List.setIfInBounds_toArray, List.set_cons_zero, List.set_cons_succ])
      refine branchH [8] (by kernel_rfl) (by kernel_rfl) (AllStep.cons ?_ AllStep.nil)
      refine stepH_do (i := 8) rfl (by rfl) ?_
      refine wp_alloc_st H 71 rfl _ slot_zero ?_
      clear H
      intro g5 wx H
      replace HS := HS.of H
      refine ⟨HS, ?_⟩
      (try simp only [Act.put, List.setIfInBounds_toArray, List.set_cons_zero, List.set_cons_succ])
      refine branchH [10] (by kernel_rfl) (by kernel_rfl) (AllStep.cons ?_ AllStep.nil)
      refine stepH_do (i := 10) rfl (by rfl) ?_
      refine wp_store_st H 71 _ _ rfl rfl rfl (by kernel_rfl) (by rfl) (by kernel_rfl) ?_
      clear H
      intro wx H
      replace HS := HS.of H
      refine ⟨HS, ?_⟩
      (try simp only [Act.put])
      refine branchH [11] (by kernel_rfl) (by kernel_rfl) (AllStep.cons ?_ AllStep.nil)
      refine stepH_do (i := 11) rfl (by rfl) ?_
      refine wp_store_st H 71 _ _ rfl rfl rfl (by kernel_rfl) (by rfl) (by kernel_rfl) ?_
      clear H
      intro wx H
      replace HS := HS.of H
      refine ⟨HS, ?_⟩
      (try simp only [Act.put])
      refine doneH (by kernel_rfl) ?_
      go_wp2_with fail
      go_meet
      exact ⟨g5, g6, rfl, rfl, H.subm _⟩
  case rest =>
    clear H
    obtain ⟨g5, g6, rfl, rfl, H⟩ := hcut
    have hm := HI.out
    go_upto_region 3 with (first | ((with_reducible refine here_alloc ?_); refine wpList_alloc_st H rfl 71 rfl _ slot_zero ?_; clear H; intro g7 wx H) | (first | ((with_reducible refine here_load ?_); first | refine ldR H rfl _ _ rfl rfl (by kernel_rfl) ?_ | refine ldS H rfl _ _ rfl rfl (by rfl) ?_ | refine ldSG H (by rfl) _ _ rfl rfl (by rfl) ?_ | refine ldRG H (by rfl) _ _ rfl rfl (by kernel_rfl) ?_) | ((with_reducible refine here_store ?_); first | (refine stR H rfl _ _ _ rfl rfl rfl (by rfl) (by rfl) (by kernel_rfl) ?_; clear H; intro wx H) | (refine stS H rfl _ _ _ rfl rfl _ rfl (by rfl) (by rfl) (by rfl) ?_; clear H; intro wx H)) | ((with_reducible refine here_alloc ?_); first | (refine wpList_alloc_st H rfl 41 rfl _ act_zero ?_; clear H; intro gac2 wx H) | (refine wpList_alloc_st H rfl 71 rfl _ slot_zero ?_; clear H; intro gsl2 wx H)) | ((with_reducible refine here_box ?_); refine wpList_box_st H rfl _ _ rfl _ rfl ?_; clear H; intro gb2 wx H)))
    go_upto_region 4 with (first | ((with_reducible refine here_load ?_); first | refine ldR H rfl _ _ rfl rfl (by kernel_rfl) ?_ | refine ldS H rfl _ _ rfl rfl (by rfl) ?_ | refine ldSG H (by rfl) _ _ rfl rfl (by rfl) ?_ | refine ldRG H (by rfl) _ _ rfl rfl (by kernel_rfl) ?_) | ((with_reducible refine here_store ?_); first | (refine stR H rfl _ _ _ rfl rfl rfl (by rfl) (by rfl) (by kernel_rfl) ?_; clear H; intro wx H) | (refine stS H rfl _ _ _ rfl rfl _ rfl (by rfl) (by rfl) (by rfl) ?_; clear H; intro wx H)) | ((with_reducible refine here_alloc ?_); first | (refine wpList_alloc_st H rfl 41 rfl _ act_zero ?_; clear H; intro gac3 wx H) | (refine wpList_alloc_st H rfl 71 rfl _ slot_zero ?_; clear H; intro gsl3 wx H)) | ((with_reducible refine here_box ?_); refine wpList_box_st H rfl _ _ rfl _ rfl ?_; clear H; intro gb3 wx H))
    (try simp only [Act.put])
    replace H : St w0 wx (.bl g7 71 #[.pointer (some ⟨g, 3, none⟩), .int .i64 1048576] :: .bl g5 71 #[.pointer (some ⟨g, 1, none⟩), .int .i64 4] :: .bl g6 71 #[.pointer (some ⟨g, 2, none⟩), .int .i64 3] :: I) := H.subm _
    by_cases hk1 : k = 1
    · subst hk1
      have hm := HI.out
      go_upto_region 5 with (first | ((with_reducible refine here_load ?_); first | refine ldR H rfl _ _ rfl rfl (by kernel_rfl) ?_ | refine ldS H rfl _ _ rfl rfl (by rfl) ?_ | refine ldSG H (by rfl) _ _ rfl rfl (by rfl) ?_ | refine ldRG H (by rfl) _ _ rfl rfl (by kernel_rfl) ?_) | ((with_reducible refine here_store ?_); first | (refine stR H rfl _ _ _ rfl rfl rfl (by rfl) (by rfl) (by kernel_rfl) ?_; clear H; intro wx H) | (refine stS H rfl _ _ _ rfl rfl _ rfl (by rfl) (by rfl) (by rfl) ?_; clear H; intro wx H)) | ((with_reducible refine here_alloc ?_); first | (refine wpList_alloc_st H rfl 41 rfl _ act_zero ?_; clear H; intro gac4 wx H) | (refine wpList_alloc_st H rfl 71 rfl _ slot_zero ?_; clear H; intro gsl4 wx H)) | ((with_reducible refine here_box ?_); refine wpList_box_st H rfl _ _ rfl _ rfl ?_; clear H; intro gb4 wx H))
      refine startS (H.subm (.bl g7 71 #[.pointer (some ⟨g, 3, none⟩), .int .i64 1048576] :: .bl g5 71 #[.pointer (some ⟨g, 1, none⟩), .int .i64 4] :: .bl g6 71 #[.pointer (some ⟨g, 2, none⟩), .int .i64 3] :: I)) (by kernel_rfl) (fun HS => ?_)
      replace H := H.drew
      refine takeRow_st (i := 0) 71 _ rfl rfl rfl row_Slot (by kernel_rfl) (by kernel_rfl) (by kernel_rfl) (by kernel_rfl) (fun _ _ _ _ h => h) (by rfl) HS ?_
      (try simp only [Act.put, List.setIfInBounds_toArray, List.set_cons_zero, List.set_cons_succ])
      refine takeRow_st (i := 1) 71 _ rfl rfl rfl row_Slot (by kernel_rfl) (by kernel_rfl) (by kernel_rfl) (by kernel_rfl) (fun _ _ _ _ h => h) (by rfl) HS ?_
      (try simp only [Act.put, List.setIfInBounds_toArray, List.set_cons_zero, List.set_cons_succ])
      refine takeV (i := 3) (v := ?_) rfl (by kernel_rfl) (by kernel_rfl) (by kernel_rfl) (fun _ _ _ h => h) (by rfl) ?_ HS ?_
      rotate_left
      · (intro W hW; go_simp; try with_reducible rfl)
      (try simp only [Act.put, List.setIfInBounds_toArray, List.set_cons_zero, List.set_cons_succ])
      refine branchH [2] (by kernel_rfl) (by kernel_rfl) (AllStep.cons ?_ AllStep.nil)
      refine stepH_do (i := 2) rfl (by rfl) ?_
      refine wp_buildSliceR_st H 65 2 _ rfl 71 _ (fun W => by simp only [List.map_toArray, List.map_cons, List.map_nil]; exact bs_slot2 _ _ _ _ W) ?_
      clear H
      intro gs wx H
      replace HS := HS.of H
      refine ⟨HS, ?_⟩
      (try simp only [Act.put, List.setIfInBounds_toArray, List.set_cons_zero, List.set_cons_succ])
      refine takeAssign (i := 4) rfl rfl _ (by rfl) (by kernel_rfl) (by kernel_rfl) (by kernel_rfl) (fun _ _ _ _ h => h) (by rfl) HS ?_
      (try simp only [Act.put, List.setIfInBounds_toArray, List.set_cons_zero, List.set_cons_succ])
      refine takeV (i := 5) (v := ?_) rfl (by kernel_rfl) (by kernel_rfl) (by kernel_rfl) (fun _ _ _ h => h) (by rfl) ?_ HS ?_
      rotate_left
      · (intro W hW; go_simp; try with_reducible rfl)
      (try simp only [Act.put, List.setIfInBounds_toArray, List.set_cons_zero, List.set_cons_succ])
      refine doneH (by kernel_rfl) ?_
      go_wp2_with fail
      exact bodyPost_ret (v := .tuple #[.string ⟨#[109, 97, 107, 101]⟩, .slice (some ⟨gs, 0, none⟩) 2 2, .bool true]) (by simp [results, Tryd.results24, asAddr]) rfl (HF.out _ ((⟨#[109, 97, 107, 101]⟩ : ByteArray), ([(2, 3), (1, 4)] : List (Nat × Int)), true) _ (by unfold formR; simp) ((H.subm (.bl gs 71 #[.pointer (some ⟨g, 2, none⟩), .int .i64 3, .pointer (some ⟨g, 1, none⟩), .int .i64 4] :: I)).frzN (n := 2) rfl (by omega)))
    by_cases hk10 : k = 10
    · subst hk10
      have hm := HI.out
      go_upto_region 7 with (first | ((with_reducible refine here_load ?_); first | refine ldR H rfl _ _ rfl rfl (by kernel_rfl) ?_ | refine ldS H rfl _ _ rfl rfl (by rfl) ?_ | refine ldSG H (by rfl) _ _ rfl rfl (by rfl) ?_ | refine ldRG H (by rfl) _ _ rfl rfl (by kernel_rfl) ?_) | ((with_reducible refine here_store ?_); first | (refine stR H rfl _ _ _ rfl rfl rfl (by rfl) (by rfl) (by kernel_rfl) ?_; clear H; intro wx H) | (refine stS H rfl _ _ _ rfl rfl _ rfl (by rfl) (by rfl) (by rfl) ?_; clear H; intro wx H)) | ((with_reducible refine here_alloc ?_); first | (refine wpList_alloc_st H rfl 41 rfl _ act_zero ?_; clear H; intro gac4 wx H) | (refine wpList_alloc_st H rfl 71 rfl _ slot_zero ?_; clear H; intro gsl4 wx H)) | ((with_reducible refine here_box ?_); refine wpList_box_st H rfl _ _ rfl _ rfl ?_; clear H; intro gb4 wx H))
      refine startS (H.subm (.bl g7 71 #[.pointer (some ⟨g, 3, none⟩), .int .i64 1048576] :: .bl g5 71 #[.pointer (some ⟨g, 1, none⟩), .int .i64 4] :: .bl g6 71 #[.pointer (some ⟨g, 2, none⟩), .int .i64 3] :: I)) (by kernel_rfl) (fun HS => ?_)
      replace H := H.drew
      refine takeRow_st (i := 0) 71 _ rfl rfl rfl row_Slot (by kernel_rfl) (by kernel_rfl) (by kernel_rfl) (by kernel_rfl) (fun _ _ _ _ h => h) (by rfl) HS ?_
      (try simp only [Act.put, List.setIfInBounds_toArray, List.set_cons_zero, List.set_cons_succ])
      refine takeRow_st (i := 1) 71 _ rfl rfl rfl row_Slot (by kernel_rfl) (by kernel_rfl) (by kernel_rfl) (by kernel_rfl) (fun _ _ _ _ h => h) (by rfl) HS ?_
      (try simp only [Act.put, List.setIfInBounds_toArray, List.set_cons_zero, List.set_cons_succ])
      refine takeV (i := 3) (v := ?_) rfl (by kernel_rfl) (by kernel_rfl) (by kernel_rfl) (fun _ _ _ h => h) (by rfl) ?_ HS ?_
      rotate_left
      · (intro W hW; go_simp; try with_reducible rfl)
      (try simp only [Act.put, List.setIfInBounds_toArray, List.set_cons_zero, List.set_cons_succ])
      refine branchH [2] (by kernel_rfl) (by kernel_rfl) (AllStep.cons ?_ AllStep.nil)
      refine stepH_do (i := 2) rfl (by rfl) ?_
      refine wp_buildSliceR_st H 65 2 _ rfl 71 _ (fun W => by simp only [List.map_toArray, List.map_cons, List.map_nil]; exact bs_slot2 _ _ _ _ W) ?_
      clear H
      intro gs wx H
      replace HS := HS.of H
      refine ⟨HS, ?_⟩
      (try simp only [Act.put, List.setIfInBounds_toArray, List.set_cons_zero, List.set_cons_succ])
      refine takeAssign (i := 4) rfl rfl _ (by rfl) (by kernel_rfl) (by kernel_rfl) (by kernel_rfl) (fun _ _ _ _ h => h) (by rfl) HS ?_
      (try simp only [Act.put, List.setIfInBounds_toArray, List.set_cons_zero, List.set_cons_succ])
      refine takeV (i := 5) (v := ?_) rfl (by kernel_rfl) (by kernel_rfl) (by kernel_rfl) (fun _ _ _ h => h) (by rfl) ?_ HS ?_
      rotate_left
      · (intro W hW; go_simp; try with_reducible rfl)
      (try simp only [Act.put, List.setIfInBounds_toArray, List.set_cons_zero, List.set_cons_succ])
      refine doneH (by kernel_rfl) ?_
      go_wp2_with fail
      exact bodyPost_ret (v := .tuple #[.string ⟨#[109, 111, 118, 101]⟩, .slice (some ⟨gs, 0, none⟩) 2 2, .bool true]) (by simp [results, Tryd.results24, asAddr]) rfl (HF.out _ ((⟨#[109, 111, 118, 101]⟩ : ByteArray), ([(2, 3), (1, 4)] : List (Nat × Int)), true) _ (by unfold formR; simp) ((H.subm (.bl gs 71 #[.pointer (some ⟨g, 2, none⟩), .int .i64 3, .pointer (some ⟨g, 1, none⟩), .int .i64 4] :: I)).frzN (n := 2) rfl (by omega)))
    by_cases hk3 : k = 3
    · subst hk3
      have hm := HI.out
      go_upto_region 9 with (first | ((with_reducible refine here_load ?_); first | refine ldR H rfl _ _ rfl rfl (by kernel_rfl) ?_ | refine ldS H rfl _ _ rfl rfl (by rfl) ?_ | refine ldSG H (by rfl) _ _ rfl rfl (by rfl) ?_ | refine ldRG H (by rfl) _ _ rfl rfl (by kernel_rfl) ?_) | ((with_reducible refine here_store ?_); first | (refine stR H rfl _ _ _ rfl rfl rfl (by rfl) (by rfl) (by kernel_rfl) ?_; clear H; intro wx H) | (refine stS H rfl _ _ _ rfl rfl _ rfl (by rfl) (by rfl) (by rfl) ?_; clear H; intro wx H)) | ((with_reducible refine here_alloc ?_); first | (refine wpList_alloc_st H rfl 41 rfl _ act_zero ?_; clear H; intro gac4 wx H) | (refine wpList_alloc_st H rfl 71 rfl _ slot_zero ?_; clear H; intro gsl4 wx H)) | ((with_reducible refine here_box ?_); refine wpList_box_st H rfl _ _ rfl _ rfl ?_; clear H; intro gb4 wx H))
      refine startS (H.subm (.bl g7 71 #[.pointer (some ⟨g, 3, none⟩), .int .i64 1048576] :: .bl g5 71 #[.pointer (some ⟨g, 1, none⟩), .int .i64 4] :: .bl g6 71 #[.pointer (some ⟨g, 2, none⟩), .int .i64 3] :: I)) (by kernel_rfl) (fun HS => ?_)
      replace H := H.drew
      refine takeRow_st (i := 0) 71 _ rfl rfl rfl row_Slot (by kernel_rfl) (by kernel_rfl) (by kernel_rfl) (by kernel_rfl) (fun _ _ _ _ h => h) (by rfl) HS ?_
      (try simp only [Act.put, List.setIfInBounds_toArray, List.set_cons_zero, List.set_cons_succ])
      refine takeV (i := 2) (v := ?_) rfl (by kernel_rfl) (by kernel_rfl) (by kernel_rfl) (fun _ _ _ h => h) (by rfl) ?_ HS ?_
      rotate_left
      · (intro W hW; go_simp; try with_reducible rfl)
      (try simp only [Act.put, List.setIfInBounds_toArray, List.set_cons_zero, List.set_cons_succ])
      refine branchH [1] (by kernel_rfl) (by kernel_rfl) (AllStep.cons ?_ AllStep.nil)
      refine stepH_do (i := 1) rfl (by rfl) ?_
      refine wp_buildSliceR_st H 65 1 _ rfl 71 _ (fun W => by simp only [List.map_toArray, List.map_cons, List.map_nil]; exact bs_slot1 _ _ W) ?_
      clear H
      intro gs wx H
      replace HS := HS.of H
      refine ⟨HS, ?_⟩
      (try simp only [Act.put, List.setIfInBounds_toArray, List.set_cons_zero, List.set_cons_succ])
      refine takeAssign (i := 3) rfl rfl _ (by rfl) (by kernel_rfl) (by kernel_rfl) (by kernel_rfl) (fun _ _ _ _ h => h) (by rfl) HS ?_
      (try simp only [Act.put, List.setIfInBounds_toArray, List.set_cons_zero, List.set_cons_succ])
      refine takeV (i := 4) (v := ?_) rfl (by kernel_rfl) (by kernel_rfl) (by kernel_rfl) (fun _ _ _ h => h) (by rfl) ?_ HS ?_
      rotate_left
      · (intro W hW; go_simp; try with_reducible rfl)
      (try simp only [Act.put, List.setIfInBounds_toArray, List.set_cons_zero, List.set_cons_succ])
      refine doneH (by kernel_rfl) ?_
      go_wp2_with fail
      exact bodyPost_ret (v := .tuple #[.string ⟨#[115, 116, 101, 112]⟩, .slice (some ⟨gs, 0, none⟩) 1 1, .bool true]) (by simp [results, Tryd.results24, asAddr]) rfl (HF.out _ ((⟨#[115, 116, 101, 112]⟩ : ByteArray), ([(1, 4)] : List (Nat × Int)), true) _ (by unfold formR; simp) ((H.subm (.bl gs 71 #[.pointer (some ⟨g, 1, none⟩), .int .i64 4] :: I)).frzN (n := 1) rfl (by omega)))
    by_cases hk9 : k = 9
    · subst hk9
      have hm := HI.out
      go_upto_region 11 with (first | ((with_reducible refine here_load ?_); first | refine ldR H rfl _ _ rfl rfl (by kernel_rfl) ?_ | refine ldS H rfl _ _ rfl rfl (by rfl) ?_ | refine ldSG H (by rfl) _ _ rfl rfl (by rfl) ?_ | refine ldRG H (by rfl) _ _ rfl rfl (by kernel_rfl) ?_) | ((with_reducible refine here_store ?_); first | (refine stR H rfl _ _ _ rfl rfl rfl (by rfl) (by rfl) (by kernel_rfl) ?_; clear H; intro wx H) | (refine stS H rfl _ _ _ rfl rfl _ rfl (by rfl) (by rfl) (by rfl) ?_; clear H; intro wx H)) | ((with_reducible refine here_alloc ?_); first | (refine wpList_alloc_st H rfl 41 rfl _ act_zero ?_; clear H; intro gac4 wx H) | (refine wpList_alloc_st H rfl 71 rfl _ slot_zero ?_; clear H; intro gsl4 wx H)) | ((with_reducible refine here_box ?_); refine wpList_box_st H rfl _ _ rfl _ rfl ?_; clear H; intro gb4 wx H))
      refine startS (H.subm (.bl g7 71 #[.pointer (some ⟨g, 3, none⟩), .int .i64 1048576] :: .bl g5 71 #[.pointer (some ⟨g, 1, none⟩), .int .i64 4] :: .bl g6 71 #[.pointer (some ⟨g, 2, none⟩), .int .i64 3] :: I)) (by kernel_rfl) (fun HS => ?_)
      replace H := H.drew
      refine takeRow_st (i := 0) 71 _ rfl rfl rfl row_Slot (by kernel_rfl) (by kernel_rfl) (by kernel_rfl) (by kernel_rfl) (fun _ _ _ _ h => h) (by rfl) HS ?_
      (try simp only [Act.put, List.setIfInBounds_toArray, List.set_cons_zero, List.set_cons_succ])
      refine takeV (i := 2) (v := ?_) rfl (by kernel_rfl) (by kernel_rfl) (by kernel_rfl) (fun _ _ _ h => h) (by rfl) ?_ HS ?_
      rotate_left
      · (intro W hW; go_simp; try with_reducible rfl)
      (try simp only [Act.put, List.setIfInBounds_toArray, List.set_cons_zero, List.set_cons_succ])
      refine branchH [1] (by kernel_rfl) (by kernel_rfl) (AllStep.cons ?_ AllStep.nil)
      refine stepH_do (i := 1) rfl (by rfl) ?_
      refine wp_buildSliceR_st H 65 1 _ rfl 71 _ (fun W => by simp only [List.map_toArray, List.map_cons, List.map_nil]; exact bs_slot1 _ _ W) ?_
      clear H
      intro gs wx H
      replace HS := HS.of H
      refine ⟨HS, ?_⟩
      (try simp only [Act.put, List.setIfInBounds_toArray, List.set_cons_zero, List.set_cons_succ])
      refine takeAssign (i := 3) rfl rfl _ (by rfl) (by kernel_rfl) (by kernel_rfl) (by kernel_rfl) (fun _ _ _ _ h => h) (by rfl) HS ?_
      (try simp only [Act.put, List.setIfInBounds_toArray, List.set_cons_zero, List.set_cons_succ])
      refine takeV (i := 4) (v := ?_) rfl (by kernel_rfl) (by kernel_rfl) (by kernel_rfl) (fun _ _ _ h => h) (by rfl) ?_ HS ?_
      rotate_left
      · (intro W hW; go_simp; try with_reducible rfl)
      (try simp only [Act.put, List.setIfInBounds_toArray, List.set_cons_zero, List.set_cons_succ])
      refine doneH (by kernel_rfl) ?_
      go_wp2_with fail
      exact bodyPost_ret (v := .tuple #[.string ⟨#[115, 116, 97, 114, 116]⟩, .slice (some ⟨gs, 0, none⟩) 1 1, .bool true]) (by simp [results, Tryd.results24, asAddr]) rfl (HF.out _ ((⟨#[115, 116, 97, 114, 116]⟩ : ByteArray), ([(1, 4)] : List (Nat × Int)), true) _ (by unfold formR; simp) ((H.subm (.bl gs 71 #[.pointer (some ⟨g, 1, none⟩), .int .i64 4] :: I)).frzN (n := 1) rfl (by omega)))
    by_cases hk8 : k = 8
    · subst hk8
      have hm := HI.out
      go_upto_region 13 with (first | ((with_reducible refine here_load ?_); first | refine ldR H rfl _ _ rfl rfl (by kernel_rfl) ?_ | refine ldS H rfl _ _ rfl rfl (by rfl) ?_ | refine ldSG H (by rfl) _ _ rfl rfl (by rfl) ?_ | refine ldRG H (by rfl) _ _ rfl rfl (by kernel_rfl) ?_) | ((with_reducible refine here_store ?_); first | (refine stR H rfl _ _ _ rfl rfl rfl (by rfl) (by rfl) (by kernel_rfl) ?_; clear H; intro wx H) | (refine stS H rfl _ _ _ rfl rfl _ rfl (by rfl) (by rfl) (by rfl) ?_; clear H; intro wx H)) | ((with_reducible refine here_alloc ?_); first | (refine wpList_alloc_st H rfl 41 rfl _ act_zero ?_; clear H; intro gac4 wx H) | (refine wpList_alloc_st H rfl 71 rfl _ slot_zero ?_; clear H; intro gsl4 wx H)) | ((with_reducible refine here_box ?_); refine wpList_box_st H rfl _ _ rfl _ rfl ?_; clear H; intro gb4 wx H))
      refine startS (H.subm (.bl g7 71 #[.pointer (some ⟨g, 3, none⟩), .int .i64 1048576] :: .bl g5 71 #[.pointer (some ⟨g, 1, none⟩), .int .i64 4] :: .bl g6 71 #[.pointer (some ⟨g, 2, none⟩), .int .i64 3] :: I)) (by kernel_rfl) (fun HS => ?_)
      replace H := H.drew
      refine takeRow_st (i := 0) 71 _ rfl rfl rfl row_Slot (by kernel_rfl) (by kernel_rfl) (by kernel_rfl) (by kernel_rfl) (fun _ _ _ _ h => h) (by rfl) HS ?_
      (try simp only [Act.put, List.setIfInBounds_toArray, List.set_cons_zero, List.set_cons_succ])
      refine takeMove (i := 1) rfl rfl _ (by rfl) (by kernel_rfl) (by kernel_rfl) (by kernel_rfl) (fun _ _ _ _ h => h) (by rfl) HS ?_
      (try simp only [Act.put, List.setIfInBounds_toArray, List.set_cons_zero, List.set_cons_succ])
      refine takeV (i := 2) (v := ?_) rfl (by kernel_rfl) (by kernel_rfl) (by kernel_rfl) (fun _ _ _ h => h) (by rfl) ?_ HS ?_
      rotate_left
      · (intro W hW; go_simp; try with_reducible rfl)
      (try simp only [Act.put, List.setIfInBounds_toArray, List.set_cons_zero, List.set_cons_succ])
      refine takeV (i := 3) (v := ?_) rfl (by kernel_rfl) (by kernel_rfl) (by kernel_rfl) (fun _ _ _ h => h) (by rfl) ?_ HS ?_
      rotate_left
      · (intro W hW; go_simp; try with_reducible rfl)
      (try simp only [Act.put, List.setIfInBounds_toArray, List.set_cons_zero, List.set_cons_succ])
      refine takeV (i := 4) (v := ?_) rfl (by kernel_rfl) (by kernel_rfl) (by kernel_rfl) (fun _ _ _ h => h) (by rfl) ?_ HS ?_
      rotate_left
      · (intro W hW; go_simp; try with_reducible rfl)
      (try simp only [Act.put, List.setIfInBounds_toArray, List.set_cons_zero, List.set_cons_succ])
      refine takeV (i := 6) (v := ?_) rfl (by kernel_rfl) (by kernel_rfl) (by kernel_rfl) (fun _ _ _ h => h) (by rfl) ?_ HS ?_
      rotate_left
      · (intro W hW; go_simp; try with_reducible rfl)
      (try simp only [Act.put, List.setIfInBounds_toArray, List.set_cons_zero, List.set_cons_succ])
      refine branchH [5] (by kernel_rfl) (by kernel_rfl) (AllStep.cons ?_ AllStep.nil)
      refine stepH_do (i := 5) rfl (by rfl) ?_
      refine wp_buildSliceR_st H 65 2 _ rfl 71 _ (fun W => by simp only [List.map_toArray, List.map_cons, List.map_nil]; exact bs_slot2 _ _ _ _ W) ?_
      clear H
      intro gs wx H
      replace HS := HS.of H
      refine ⟨HS, ?_⟩
      (try simp only [Act.put, List.setIfInBounds_toArray, List.set_cons_zero, List.set_cons_succ])
      refine takeAssign (i := 7) rfl rfl _ (by rfl) (by kernel_rfl) (by kernel_rfl) (by kernel_rfl) (fun _ _ _ _ h => h) (by rfl) HS ?_
      (try simp only [Act.put, List.setIfInBounds_toArray, List.set_cons_zero, List.set_cons_succ])
      refine takeV (i := 8) (v := ?_) rfl (by kernel_rfl) (by kernel_rfl) (by kernel_rfl) (fun _ _ _ h => h) (by rfl) ?_ HS ?_
      rotate_left
      · (intro W hW; go_simp; try with_reducible rfl)
      (try simp only [Act.put, List.setIfInBounds_toArray, List.set_cons_zero, List.set_cons_succ])
      refine doneH (by kernel_rfl) ?_
      go_wp2_with fail
      exact bodyPost_ret (v := .tuple #[.string ⟨#[99, 114, 97, 115, 104]⟩, .slice (some ⟨gs, 0, none⟩) 2 2, .bool true]) (by simp [results, Tryd.results24, asAddr]) rfl (HF.out _ ((⟨#[99, 114, 97, 115, 104]⟩ : ByteArray), ([(1, 4), (4, 100000)] : List (Nat × Int)), true) _ (by unfold formR; simp) ((H.subm (.bl gs 71 #[.pointer (some ⟨g, 1, none⟩), .int .i64 4, .pointer (some ⟨g, 4, none⟩), .int .i64 100000] :: I)).frzN (n := 2) rfl (by omega)))
    by_cases hk4 : k = 4
    · subst hk4
      have hm := HI.out
      go_upto_region 15 with (first | ((with_reducible refine here_load ?_); first | refine ldR H rfl _ _ rfl rfl (by kernel_rfl) ?_ | refine ldS H rfl _ _ rfl rfl (by rfl) ?_ | refine ldSG H (by rfl) _ _ rfl rfl (by rfl) ?_ | refine ldRG H (by rfl) _ _ rfl rfl (by kernel_rfl) ?_) | ((with_reducible refine here_store ?_); first | (refine stR H rfl _ _ _ rfl rfl rfl (by rfl) (by rfl) (by kernel_rfl) ?_; clear H; intro wx H) | (refine stS H rfl _ _ _ rfl rfl _ rfl (by rfl) (by rfl) (by rfl) ?_; clear H; intro wx H)) | ((with_reducible refine here_alloc ?_); first | (refine wpList_alloc_st H rfl 41 rfl _ act_zero ?_; clear H; intro gac4 wx H) | (refine wpList_alloc_st H rfl 71 rfl _ slot_zero ?_; clear H; intro gsl4 wx H)) | ((with_reducible refine here_box ?_); refine wpList_box_st H rfl _ _ rfl _ rfl ?_; clear H; intro gb4 wx H))
      refine startS (H.subm (.bl g7 71 #[.pointer (some ⟨g, 3, none⟩), .int .i64 1048576] :: .bl g5 71 #[.pointer (some ⟨g, 1, none⟩), .int .i64 4] :: .bl g6 71 #[.pointer (some ⟨g, 2, none⟩), .int .i64 3] :: I)) (by kernel_rfl) (fun HS => ?_)
      replace H := H.drew
      refine takeRow_st (i := 0) 71 _ rfl rfl rfl row_Slot (by kernel_rfl) (by kernel_rfl) (by kernel_rfl) (by kernel_rfl) (fun _ _ _ _ h => h) (by rfl) HS ?_
      (try simp only [Act.put, List.setIfInBounds_toArray, List.set_cons_zero, List.set_cons_succ])
      refine takeV (i := 2) (v := ?_) rfl (by kernel_rfl) (by kernel_rfl) (by kernel_rfl) (fun _ _ _ h => h) (by rfl) ?_ HS ?_
      rotate_left
      · (intro W hW; go_simp; try with_reducible rfl)
      (try simp only [Act.put, List.setIfInBounds_toArray, List.set_cons_zero, List.set_cons_succ])
      refine branchH [1] (by kernel_rfl) (by kernel_rfl) (AllStep.cons ?_ AllStep.nil)
      refine stepH_do (i := 1) rfl (by rfl) ?_
      refine wp_buildSliceR_st H 65 1 _ rfl 71 _ (fun W => by simp only [List.map_toArray, List.map_cons, List.map_nil]; exact bs_slot1 _ _ W) ?_
      clear H
      intro gs wx H
      replace HS := HS.of H
      refine ⟨HS, ?_⟩
      (try simp only [Act.put, List.setIfInBounds_toArray, List.set_cons_zero, List.set_cons_succ])
      refine takeAssign (i := 3) rfl rfl _ (by rfl) (by kernel_rfl) (by kernel_rfl) (by kernel_rfl) (fun _ _ _ _ h => h) (by rfl) HS ?_
      (try simp only [Act.put, List.setIfInBounds_toArray, List.set_cons_zero, List.set_cons_succ])
      refine takeV (i := 4) (v := ?_) rfl (by kernel_rfl) (by kernel_rfl) (by kernel_rfl) (fun _ _ _ h => h) (by rfl) ?_ HS ?_
      rotate_left
      · (intro W hW; go_simp; try with_reducible rfl)
      (try simp only [Act.put, List.setIfInBounds_toArray, List.set_cons_zero, List.set_cons_succ])
      refine doneH (by kernel_rfl) ?_
      go_wp2_with fail
      exact bodyPost_ret (v := .tuple #[.string ⟨#[99, 97, 114, 114, 121]⟩, .slice (some ⟨gs, 0, none⟩) 1 1, .bool true]) (by simp [results, Tryd.results24, asAddr]) rfl (HF.out _ ((⟨#[99, 97, 114, 114, 121]⟩ : ByteArray), ([(3, 1048576)] : List (Nat × Int)), true) _ (by unfold formR; simp) ((H.subm (.bl gs 71 #[.pointer (some ⟨g, 3, none⟩), .int .i64 1048576] :: I)).frzN (n := 1) rfl (by omega)))
    by_cases hk5 : k = 5
    · subst hk5
      have hm := HI.out
      go_upto_region 17 with (first | ((with_reducible refine here_load ?_); first | refine ldR H rfl _ _ rfl rfl (by kernel_rfl) ?_ | refine ldS H rfl _ _ rfl rfl (by rfl) ?_ | refine ldSG H (by rfl) _ _ rfl rfl (by rfl) ?_ | refine ldRG H (by rfl) _ _ rfl rfl (by kernel_rfl) ?_) | ((with_reducible refine here_store ?_); first | (refine stR H rfl _ _ _ rfl rfl rfl (by rfl) (by rfl) (by kernel_rfl) ?_; clear H; intro wx H) | (refine stS H rfl _ _ _ rfl rfl _ rfl (by rfl) (by rfl) (by rfl) ?_; clear H; intro wx H)) | ((with_reducible refine here_alloc ?_); first | (refine wpList_alloc_st H rfl 41 rfl _ act_zero ?_; clear H; intro gac4 wx H) | (refine wpList_alloc_st H rfl 71 rfl _ slot_zero ?_; clear H; intro gsl4 wx H)) | ((with_reducible refine here_box ?_); refine wpList_box_st H rfl _ _ rfl _ rfl ?_; clear H; intro gb4 wx H))
      refine startS (H.subm (.bl g7 71 #[.pointer (some ⟨g, 3, none⟩), .int .i64 1048576] :: .bl g5 71 #[.pointer (some ⟨g, 1, none⟩), .int .i64 4] :: .bl g6 71 #[.pointer (some ⟨g, 2, none⟩), .int .i64 3] :: I)) (by kernel_rfl) (fun HS => ?_)
      replace H := H.drew
      refine takeRow_st (i := 0) 71 _ rfl rfl rfl row_Slot (by kernel_rfl) (by kernel_rfl) (by kernel_rfl) (by kernel_rfl) (fun _ _ _ _ h => h) (by rfl) HS ?_
      (try simp only [Act.put, List.setIfInBounds_toArray, List.set_cons_zero, List.set_cons_succ])
      refine takeV (i := 2) (v := ?_) rfl (by kernel_rfl) (by kernel_rfl) (by kernel_rfl) (fun _ _ _ h => h) (by rfl) ?_ HS ?_
      rotate_left
      · (intro W hW; go_simp; try with_reducible rfl)
      (try simp only [Act.put, List.setIfInBounds_toArray, List.set_cons_zero, List.set_cons_succ])
      refine branchH [1] (by kernel_rfl) (by kernel_rfl) (AllStep.cons ?_ AllStep.nil)
      refine stepH_do (i := 1) rfl (by rfl) ?_
      refine wp_buildSliceR_st H 65 1 _ rfl 71 _ (fun W => by simp only [List.map_toArray, List.map_cons, List.map_nil]; exact bs_slot1 _ _ W) ?_
      clear H
      intro gs wx H
      replace HS := HS.of H
      refine ⟨HS, ?_⟩
      (try simp only [Act.put, List.setIfInBounds_toArray, List.set_cons_zero, List.set_cons_succ])
      refine takeAssign (i := 3) rfl rfl _ (by rfl) (by kernel_rfl) (by kernel_rfl) (by kernel_rfl) (fun _ _ _ _ h => h) (by rfl) HS ?_
      (try simp only [Act.put, List.setIfInBounds_toArray, List.set_cons_zero, List.set_cons_succ])
      refine takeV (i := 4) (v := ?_) rfl (by kernel_rfl) (by kernel_rfl) (by kernel_rfl) (fun _ _ _ h => h) (by rfl) ?_ HS ?_
      rotate_left
      · (intro W hW; go_simp; try with_reducible rfl)
      (try simp only [Act.put, List.setIfInBounds_toArray, List.set_cons_zero, List.set_cons_succ])
      refine doneH (by kernel_rfl) ?_
      go_wp2_with fail
      exact bodyPost_ret (v := .tuple #[.string ⟨#[108, 111, 115, 101]⟩, .slice (some ⟨gs, 0, none⟩) 1 1, .bool true]) (by simp [results, Tryd.results24, asAddr]) rfl (HF.out _ ((⟨#[108, 111, 115, 101]⟩ : ByteArray), ([(3, 1048576)] : List (Nat × Int)), true) _ (by unfold formR; simp) ((H.subm (.bl gs 71 #[.pointer (some ⟨g, 3, none⟩), .int .i64 1048576] :: I)).frzN (n := 1) rfl (by omega)))
    by_cases hk6 : k = 6
    · subst hk6
      have hm := HI.out
      go_upto_region 19 with (first | ((with_reducible refine here_load ?_); first | refine ldR H rfl _ _ rfl rfl (by kernel_rfl) ?_ | refine ldS H rfl _ _ rfl rfl (by rfl) ?_ | refine ldSG H (by rfl) _ _ rfl rfl (by rfl) ?_ | refine ldRG H (by rfl) _ _ rfl rfl (by kernel_rfl) ?_) | ((with_reducible refine here_store ?_); first | (refine stR H rfl _ _ _ rfl rfl rfl (by rfl) (by rfl) (by kernel_rfl) ?_; clear H; intro wx H) | (refine stS H rfl _ _ _ rfl rfl _ rfl (by rfl) (by rfl) (by rfl) ?_; clear H; intro wx H)) | ((with_reducible refine here_alloc ?_); first | (refine wpList_alloc_st H rfl 41 rfl _ act_zero ?_; clear H; intro gac4 wx H) | (refine wpList_alloc_st H rfl 71 rfl _ slot_zero ?_; clear H; intro gsl4 wx H)) | ((with_reducible refine here_box ?_); refine wpList_box_st H rfl _ _ rfl _ rfl ?_; clear H; intro gb4 wx H))
      refine startS (H.subm (.bl g7 71 #[.pointer (some ⟨g, 3, none⟩), .int .i64 1048576] :: .bl g5 71 #[.pointer (some ⟨g, 1, none⟩), .int .i64 4] :: .bl g6 71 #[.pointer (some ⟨g, 2, none⟩), .int .i64 3] :: I)) (by kernel_rfl) (fun HS => ?_)
      replace H := H.drew
      refine takeRow_st (i := 0) 71 _ rfl rfl rfl row_Slot (by kernel_rfl) (by kernel_rfl) (by kernel_rfl) (by kernel_rfl) (fun _ _ _ _ h => h) (by rfl) HS ?_
      (try simp only [Act.put, List.setIfInBounds_toArray, List.set_cons_zero, List.set_cons_succ])
      refine takeV (i := 2) (v := ?_) rfl (by kernel_rfl) (by kernel_rfl) (by kernel_rfl) (fun _ _ _ h => h) (by rfl) ?_ HS ?_
      rotate_left
      · (intro W hW; go_simp; try with_reducible rfl)
      (try simp only [Act.put, List.setIfInBounds_toArray, List.set_cons_zero, List.set_cons_succ])
      refine branchH [1] (by kernel_rfl) (by kernel_rfl) (AllStep.cons ?_ AllStep.nil)
      refine stepH_do (i := 1) rfl (by rfl) ?_
      refine wp_buildSliceR_st H 65 1 _ rfl 71 _ (fun W => by simp only [List.map_toArray, List.map_cons, List.map_nil]; exact bs_slot1 _ _ W) ?_
      clear H
      intro gs wx H
      replace HS := HS.of H
      refine ⟨HS, ?_⟩
      (try simp only [Act.put, List.setIfInBounds_toArray, List.set_cons_zero, List.set_cons_succ])
      refine takeAssign (i := 3) rfl rfl _ (by rfl) (by kernel_rfl) (by kernel_rfl) (by kernel_rfl) (fun _ _ _ _ h => h) (by rfl) HS ?_
      (try simp only [Act.put, List.setIfInBounds_toArray, List.set_cons_zero, List.set_cons_succ])
      refine takeV (i := 4) (v := ?_) rfl (by kernel_rfl) (by kernel_rfl) (by kernel_rfl) (fun _ _ _ h => h) (by rfl) ?_ HS ?_
      rotate_left
      · (intro W hW; go_simp; try with_reducible rfl)
      (try simp only [Act.put, List.setIfInBounds_toArray, List.set_cons_zero, List.set_cons_succ])
      refine doneH (by kernel_rfl) ?_
      go_wp2_with fail
      exact bodyPost_ret (v := .tuple #[.string ⟨#[100, 111, 117, 98, 108, 101]⟩, .slice (some ⟨gs, 0, none⟩) 1 1, .bool true]) (by simp [results, Tryd.results24, asAddr]) rfl (HF.out _ ((⟨#[100, 111, 117, 98, 108, 101]⟩ : ByteArray), ([(3, 1048576)] : List (Nat × Int)), true) _ (by unfold formR; simp) ((H.subm (.bl gs 71 #[.pointer (some ⟨g, 3, none⟩), .int .i64 1048576] :: I)).frzN (n := 1) rfl (by omega)))
    by_cases hk7 : k = 7
    · subst hk7
      have hm := HI.out
      go_wp2_with (first | ((with_reducible refine here_load ?_); first | refine ldR H rfl _ _ rfl rfl (by kernel_rfl) ?_ | refine ldS H rfl _ _ rfl rfl (by rfl) ?_ | refine ldSG H (by rfl) _ _ rfl rfl (by rfl) ?_ | refine ldRG H (by rfl) _ _ rfl rfl (by kernel_rfl) ?_) | ((with_reducible refine here_store ?_); first | (refine stR H rfl _ _ _ rfl rfl rfl (by rfl) (by rfl) (by kernel_rfl) ?_; clear H; intro wx H) | (refine stS H rfl _ _ _ rfl rfl _ rfl (by rfl) (by rfl) (by rfl) ?_; clear H; intro wx H)) | ((with_reducible refine here_alloc ?_); first | (refine wpList_alloc_st H rfl 41 rfl _ act_zero ?_; clear H; intro gac4 wx H) | (refine wpList_alloc_st H rfl 71 rfl _ slot_zero ?_; clear H; intro gsl4 wx H)) | ((with_reducible refine here_box ?_); refine wpList_box_st H rfl _ _ rfl _ rfl ?_; clear H; intro gb4 wx H))
      exact bodyPost_ret (v := .tuple #[.string ⟨#[97, 108, 108]⟩, .slice none 0 0, .bool true]) (by simp [results, Tryd.results24, asAddr]) rfl (HF.out _ ((⟨#[97, 108, 108]⟩ : ByteArray), ([] : List (Nat × Int)), true) _ (by unfold formR; simp) (slIt_nil (H.subm _)))
    by_cases hk2 : k = 2
    · subst hk2
      go_upto_region 25 with (first | ((with_reducible refine here_load ?_); first | refine ldR H rfl _ _ rfl rfl (by kernel_rfl) ?_ | refine ldS H rfl _ _ rfl rfl (by rfl) ?_ | refine ldSG H (by rfl) _ _ rfl rfl (by rfl) ?_ | refine ldRG H (by rfl) _ _ rfl rfl (by kernel_rfl) ?_) | ((with_reducible refine here_store ?_); first | (refine stR H rfl _ _ _ rfl rfl rfl (by rfl) (by rfl) (by kernel_rfl) ?_; clear H; intro wx H) | (refine stS H rfl _ _ _ rfl rfl _ rfl (by rfl) (by rfl) (by rfl) ?_; clear H; intro wx H)) | ((with_reducible refine here_alloc ?_); first | (refine wpList_alloc_st H rfl 41 rfl _ act_zero ?_; clear H; intro gac4 wx H) | (refine wpList_alloc_st H rfl 71 rfl _ slot_zero ?_; clear H; intro gsl4 wx H)) | ((with_reducible refine here_box ?_); refine wpList_box_st H rfl _ _ rfl _ rfl ?_; clear H; intro gb4 wx H))
      by_cases he1 : e0 = 1
      · subst he1
        have hm := HI.out
        go_upto_region 26 with (first | ((with_reducible refine here_load ?_); first | refine ldR H rfl _ _ rfl rfl (by kernel_rfl) ?_ | refine ldS H rfl _ _ rfl rfl (by rfl) ?_ | refine ldSG H (by rfl) _ _ rfl rfl (by rfl) ?_ | refine ldRG H (by rfl) _ _ rfl rfl (by kernel_rfl) ?_) | ((with_reducible refine here_store ?_); first | (refine stR H rfl _ _ _ rfl rfl rfl (by rfl) (by rfl) (by kernel_rfl) ?_; clear H; intro wx H) | (refine stS H rfl _ _ _ rfl rfl _ rfl (by rfl) (by rfl) (by rfl) ?_; clear H; intro wx H)) | ((with_reducible refine here_alloc ?_); first | (refine wpList_alloc_st H rfl 41 rfl _ act_zero ?_; clear H; intro gac4 wx H) | (refine wpList_alloc_st H rfl 71 rfl _ slot_zero ?_; clear H; intro gsl4 wx H)) | ((with_reducible refine here_box ?_); refine wpList_box_st H rfl _ _ rfl _ rfl ?_; clear H; intro gb4 wx H))
        refine startS (H.subm (.bl g7 71 #[.pointer (some ⟨g, 3, none⟩), .int .i64 1048576] :: .bl g5 71 #[.pointer (some ⟨g, 1, none⟩), .int .i64 4] :: .bl g6 71 #[.pointer (some ⟨g, 2, none⟩), .int .i64 3] :: I)) (by kernel_rfl) (fun HS => ?_)
        replace H := H.drew
        refine takeRow_st (i := 0) 71 _ rfl rfl rfl row_Slot (by kernel_rfl) (by kernel_rfl) (by kernel_rfl) (by kernel_rfl) (fun _ _ _ _ h => h) (by rfl) HS ?_
        (try simp only [Act.put, List.setIfInBounds_toArray, List.set_cons_zero, List.set_cons_succ])
        refine takeRow_st (i := 1) 71 _ rfl rfl rfl row_Slot (by kernel_rfl) (by kernel_rfl) (by kernel_rfl) (by kernel_rfl) (fun _ _ _ _ h => h) (by rfl) HS ?_
        (try simp only [Act.put, List.setIfInBounds_toArray, List.set_cons_zero, List.set_cons_succ])
        refine takeMove (i := 2) rfl rfl _ (by rfl) (by kernel_rfl) (by kernel_rfl) (by kernel_rfl) (fun _ _ _ _ h => h) (by rfl) HS ?_
        (try simp only [Act.put, List.setIfInBounds_toArray, List.set_cons_zero, List.set_cons_succ])
        refine takeV (i := 3) (v := ?_) rfl (by kernel_rfl) (by kernel_rfl) (by kernel_rfl) (fun _ _ _ h => h) (by rfl) ?_ HS ?_
        rotate_left
        · (intro W hW; go_simp; try with_reducible rfl)
        (try simp only [Act.put, List.setIfInBounds_toArray, List.set_cons_zero, List.set_cons_succ])
        refine takeV (i := 4) (v := ?_) rfl (by kernel_rfl) (by kernel_rfl) (by kernel_rfl) (fun _ _ _ h => h) (by rfl) ?_ HS ?_
        rotate_left
        · (intro W hW; go_simp; try with_reducible rfl)
        (try simp only [Act.put, List.setIfInBounds_toArray, List.set_cons_zero, List.set_cons_succ])
        refine takeV (i := 5) (v := ?_) rfl (by kernel_rfl) (by kernel_rfl) (by kernel_rfl) (fun _ _ _ h => h) (by rfl) ?_ HS ?_
        rotate_left
        · (intro W hW; go_simp; try with_reducible rfl)
        (try simp only [Act.put, List.setIfInBounds_toArray, List.set_cons_zero, List.set_cons_succ])
        refine takeMove (i := 6) rfl rfl _ (by rfl) (by kernel_rfl) (by kernel_rfl) (by kernel_rfl) (fun _ _ _ _ h => h) (by rfl) HS ?_
        (try simp only [Act.put, List.setIfInBounds_toArray, List.set_cons_zero, List.set_cons_succ])
        refine takeV (i := 7) (v := ?_) rfl (by kernel_rfl) (by kernel_rfl) (by kernel_rfl) (fun _ _ _ h => h) (by rfl) ?_ HS ?_
        rotate_left
        · (intro W hW; go_simp; try with_reducible rfl)
        (try simp only [Act.put, List.setIfInBounds_toArray, List.set_cons_zero, List.set_cons_succ])
        refine takeV (i := 8) (v := ?_) rfl (by kernel_rfl) (by kernel_rfl) (by kernel_rfl) (fun _ _ _ h => h) (by rfl) ?_ HS ?_
        rotate_left
        · (intro W hW; go_simp; try with_reducible rfl)
        (try simp only [Act.put, List.setIfInBounds_toArray, List.set_cons_zero, List.set_cons_succ])
        refine takeV (i := 9) (v := ?_) rfl (by kernel_rfl) (by kernel_rfl) (by kernel_rfl) (fun _ _ _ h => h) (by rfl) ?_ HS ?_
        rotate_left
        · (intro W hW; go_simp; try with_reducible rfl)
        (try simp only [Act.put, List.setIfInBounds_toArray, List.set_cons_zero, List.set_cons_succ])
        refine takeMove (i := 10) rfl rfl _ (by rfl) (by kernel_rfl) (by kernel_rfl) (by kernel_rfl) (fun _ _ _ _ h => h) (by rfl) HS ?_
        (try simp only [Act.put, List.setIfInBounds_toArray, List.set_cons_zero, List.set_cons_succ])
        refine takeV (i := 11) (v := ?_) rfl (by kernel_rfl) (by kernel_rfl) (by kernel_rfl) (fun _ _ _ h => h) (by rfl) ?_ HS ?_
        rotate_left
        · (intro W hW; go_simp; try with_reducible rfl)
        (try simp only [Act.put, List.setIfInBounds_toArray, List.set_cons_zero, List.set_cons_succ])
        refine takeV (i := 12) (v := ?_) rfl (by kernel_rfl) (by kernel_rfl) (by kernel_rfl) (fun _ _ _ h => h) (by rfl) ?_ HS ?_
        rotate_left
        · (intro W hW; go_simp; try with_reducible rfl)
        (try simp only [Act.put, List.setIfInBounds_toArray, List.set_cons_zero, List.set_cons_succ])
        refine takeV (i := 13) (v := ?_) rfl (by kernel_rfl) (by kernel_rfl) (by kernel_rfl) (fun _ _ _ h => h) (by rfl) ?_ HS ?_
        rotate_left
        · (intro W hW; go_simp; try with_reducible rfl)
        (try simp only [Act.put, List.setIfInBounds_toArray, List.set_cons_zero, List.set_cons_succ])
        refine takeV (i := 15) (v := ?_) rfl (by kernel_rfl) (by kernel_rfl) (by kernel_rfl) (fun _ _ _ h => h) (by rfl) ?_ HS ?_
        rotate_left
        · (intro W hW; go_simp; try with_reducible rfl)
        (try simp only [Act.put, List.setIfInBounds_toArray, List.set_cons_zero, List.set_cons_succ])
        refine branchH [14] (by kernel_rfl) (by kernel_rfl) (AllStep.cons ?_ AllStep.nil)
        refine stepH_do (i := 14) rfl (by rfl) ?_
        refine wp_buildSliceR_st H 65 5 _ rfl 71 _ (fun W => by simp only [List.map_toArray, List.map_cons, List.map_nil]; exact bs_slot5 _ _ _ _ _ _ _ _ _ _ W) ?_
        clear H
        intro gs wx H
        replace HS := HS.of H
        refine ⟨HS, ?_⟩
        (try simp only [Act.put, List.setIfInBounds_toArray, List.set_cons_zero, List.set_cons_succ])
        refine takeAssign (i := 16) rfl rfl _ (by rfl) (by kernel_rfl) (by kernel_rfl) (by kernel_rfl) (fun _ _ _ _ h => h) (by rfl) HS ?_
        (try simp only [Act.put, List.setIfInBounds_toArray, List.set_cons_zero, List.set_cons_succ])
        refine takeV (i := 17) (v := ?_) rfl (by kernel_rfl) (by kernel_rfl) (by kernel_rfl) (fun _ _ _ h => h) (by rfl) ?_ HS ?_
        rotate_left
        · (intro W hW; go_simp; try with_reducible rfl)
        (try simp only [Act.put, List.setIfInBounds_toArray, List.set_cons_zero, List.set_cons_succ])
        refine doneH (by kernel_rfl) ?_
        go_wp2_with fail
        exact bodyPost_ret (v := .tuple #[.string ⟨#[112, 117, 98, 108, 105, 115, 104]⟩, .slice (some ⟨gs, 0, none⟩) 5 5, .bool true]) (by simp [results, Tryd.results24, asAddr]) rfl (HF.out _ ((⟨#[112, 117, 98, 108, 105, 115, 104]⟩ : ByteArray), ([(1, 4), (2, 3), (6, 3), (7, 1073741824), (8, 1000000)] : List (Nat × Int)), true) _ (by unfold formR; simp) ((H.subm (.bl gs 71 #[.pointer (some ⟨g, 1, none⟩), .int .i64 4, .pointer (some ⟨g, 2, none⟩), .int .i64 3, .pointer (some ⟨g, 6, none⟩), .int .i64 3, .pointer (some ⟨g, 7, none⟩), .int .i64 1073741824, .pointer (some ⟨g, 8, none⟩), .int .i64 1000000] :: I)).frzN (n := 5) rfl (by omega)))
      by_cases he2 : e0 = 2
      · subst he2
        have hm := HI.out
        go_upto_region 28 with (first | ((with_reducible refine here_load ?_); first | refine ldR H rfl _ _ rfl rfl (by kernel_rfl) ?_ | refine ldS H rfl _ _ rfl rfl (by rfl) ?_ | refine ldSG H (by rfl) _ _ rfl rfl (by rfl) ?_ | refine ldRG H (by rfl) _ _ rfl rfl (by kernel_rfl) ?_) | ((with_reducible refine here_store ?_); first | (refine stR H rfl _ _ _ rfl rfl rfl (by rfl) (by rfl) (by kernel_rfl) ?_; clear H; intro wx H) | (refine stS H rfl _ _ _ rfl rfl _ rfl (by rfl) (by rfl) (by rfl) ?_; clear H; intro wx H)) | ((with_reducible refine here_alloc ?_); first | (refine wpList_alloc_st H rfl 41 rfl _ act_zero ?_; clear H; intro gac4 wx H) | (refine wpList_alloc_st H rfl 71 rfl _ slot_zero ?_; clear H; intro gsl4 wx H)) | ((with_reducible refine here_box ?_); refine wpList_box_st H rfl _ _ rfl _ rfl ?_; clear H; intro gb4 wx H))
        refine startS (H.subm (.bl g7 71 #[.pointer (some ⟨g, 3, none⟩), .int .i64 1048576] :: .bl g5 71 #[.pointer (some ⟨g, 1, none⟩), .int .i64 4] :: .bl g6 71 #[.pointer (some ⟨g, 2, none⟩), .int .i64 3] :: I)) (by kernel_rfl) (fun HS => ?_)
        replace H := H.drew
        refine takeRow_st (i := 0) 71 _ rfl rfl rfl row_Slot (by kernel_rfl) (by kernel_rfl) (by kernel_rfl) (by kernel_rfl) (fun _ _ _ _ h => h) (by rfl) HS ?_
        (try simp only [Act.put, List.setIfInBounds_toArray, List.set_cons_zero, List.set_cons_succ])
        refine takeRow_st (i := 1) 71 _ rfl rfl rfl row_Slot (by kernel_rfl) (by kernel_rfl) (by kernel_rfl) (by kernel_rfl) (fun _ _ _ _ h => h) (by rfl) HS ?_
        (try simp only [Act.put, List.setIfInBounds_toArray, List.set_cons_zero, List.set_cons_succ])
        refine takeV (i := 3) (v := ?_) rfl (by kernel_rfl) (by kernel_rfl) (by kernel_rfl) (fun _ _ _ h => h) (by rfl) ?_ HS ?_
        rotate_left
        · (intro W hW; go_simp; try with_reducible rfl)
        (try simp only [Act.put, List.setIfInBounds_toArray, List.set_cons_zero, List.set_cons_succ])
        refine branchH [2] (by kernel_rfl) (by kernel_rfl) (AllStep.cons ?_ AllStep.nil)
        refine stepH_do (i := 2) rfl (by rfl) ?_
        refine wp_buildSliceR_st H 65 2 _ rfl 71 _ (fun W => by simp only [List.map_toArray, List.map_cons, List.map_nil]; exact bs_slot2 _ _ _ _ W) ?_
        clear H
        intro gs wx H
        replace HS := HS.of H
        refine ⟨HS, ?_⟩
        (try simp only [Act.put, List.setIfInBounds_toArray, List.set_cons_zero, List.set_cons_succ])
        refine takeAssign (i := 4) rfl rfl _ (by rfl) (by kernel_rfl) (by kernel_rfl) (by kernel_rfl) (fun _ _ _ _ h => h) (by rfl) HS ?_
        (try simp only [Act.put, List.setIfInBounds_toArray, List.set_cons_zero, List.set_cons_succ])
        refine takeV (i := 5) (v := ?_) rfl (by kernel_rfl) (by kernel_rfl) (by kernel_rfl) (fun _ _ _ h => h) (by rfl) ?_ HS ?_
        rotate_left
        · (intro W hW; go_simp; try with_reducible rfl)
        (try simp only [Act.put, List.setIfInBounds_toArray, List.set_cons_zero, List.set_cons_succ])
        refine doneH (by kernel_rfl) ?_
        go_wp2_with fail
        exact bodyPost_ret (v := .tuple #[.string ⟨#[114, 101, 99, 101, 105, 118, 101]⟩, .slice (some ⟨gs, 0, none⟩) 2 2, .bool true]) (by simp [results, Tryd.results24, asAddr]) rfl (HF.out _ ((⟨#[114, 101, 99, 101, 105, 118, 101]⟩ : ByteArray), ([(1, 4), (2, 3)] : List (Nat × Int)), true) _ (by unfold formR; simp) ((H.subm (.bl gs 71 #[.pointer (some ⟨g, 1, none⟩), .int .i64 4, .pointer (some ⟨g, 2, none⟩), .int .i64 3] :: I)).frzN (n := 2) rfl (by omega)))
      by_cases he3 : e0 = 3
      · subst he3
        have hm := HI.out
        go_upto_region 30 with (first | ((with_reducible refine here_load ?_); first | refine ldR H rfl _ _ rfl rfl (by kernel_rfl) ?_ | refine ldS H rfl _ _ rfl rfl (by rfl) ?_ | refine ldSG H (by rfl) _ _ rfl rfl (by rfl) ?_ | refine ldRG H (by rfl) _ _ rfl rfl (by kernel_rfl) ?_) | ((with_reducible refine here_store ?_); first | (refine stR H rfl _ _ _ rfl rfl rfl (by rfl) (by rfl) (by kernel_rfl) ?_; clear H; intro wx H) | (refine stS H rfl _ _ _ rfl rfl _ rfl (by rfl) (by rfl) (by rfl) ?_; clear H; intro wx H)) | ((with_reducible refine here_alloc ?_); first | (refine wpList_alloc_st H rfl 41 rfl _ act_zero ?_; clear H; intro gac4 wx H) | (refine wpList_alloc_st H rfl 71 rfl _ slot_zero ?_; clear H; intro gsl4 wx H)) | ((with_reducible refine here_box ?_); refine wpList_box_st H rfl _ _ rfl _ rfl ?_; clear H; intro gb4 wx H))
        refine startS (H.subm (.bl g7 71 #[.pointer (some ⟨g, 3, none⟩), .int .i64 1048576] :: .bl g5 71 #[.pointer (some ⟨g, 1, none⟩), .int .i64 4] :: .bl g6 71 #[.pointer (some ⟨g, 2, none⟩), .int .i64 3] :: I)) (by kernel_rfl) (fun HS => ?_)
        replace H := H.drew
        refine takeRow_st (i := 0) 71 _ rfl rfl rfl row_Slot (by kernel_rfl) (by kernel_rfl) (by kernel_rfl) (by kernel_rfl) (fun _ _ _ _ h => h) (by rfl) HS ?_
        (try simp only [Act.put, List.setIfInBounds_toArray, List.set_cons_zero, List.set_cons_succ])
        refine takeRow_st (i := 1) 71 _ rfl rfl rfl row_Slot (by kernel_rfl) (by kernel_rfl) (by kernel_rfl) (by kernel_rfl) (fun _ _ _ _ h => h) (by rfl) HS ?_
        (try simp only [Act.put, List.setIfInBounds_toArray, List.set_cons_zero, List.set_cons_succ])
        refine takeMove (i := 2) rfl rfl _ (by rfl) (by kernel_rfl) (by kernel_rfl) (by kernel_rfl) (fun _ _ _ _ h => h) (by rfl) HS ?_
        (try simp only [Act.put, List.setIfInBounds_toArray, List.set_cons_zero, List.set_cons_succ])
        refine takeV (i := 3) (v := ?_) rfl (by kernel_rfl) (by kernel_rfl) (by kernel_rfl) (fun _ _ _ h => h) (by rfl) ?_ HS ?_
        rotate_left
        · (intro W hW; go_simp; try with_reducible rfl)
        (try simp only [Act.put, List.setIfInBounds_toArray, List.set_cons_zero, List.set_cons_succ])
        refine takeV (i := 4) (v := ?_) rfl (by kernel_rfl) (by kernel_rfl) (by kernel_rfl) (fun _ _ _ h => h) (by rfl) ?_ HS ?_
        rotate_left
        · (intro W hW; go_simp; try with_reducible rfl)
        (try simp only [Act.put, List.setIfInBounds_toArray, List.set_cons_zero, List.set_cons_succ])
        refine takeV (i := 5) (v := ?_) rfl (by kernel_rfl) (by kernel_rfl) (by kernel_rfl) (fun _ _ _ h => h) (by rfl) ?_ HS ?_
        rotate_left
        · (intro W hW; go_simp; try with_reducible rfl)
        (try simp only [Act.put, List.setIfInBounds_toArray, List.set_cons_zero, List.set_cons_succ])
        refine takeV (i := 6) (v := ?_) rfl (by kernel_rfl) (by kernel_rfl) (by kernel_rfl) (fun _ _ _ h => h) (by rfl) ?_ HS ?_
        rotate_left
        · (intro W hW; go_simp; try with_reducible rfl)
        (try simp only [Act.put, List.setIfInBounds_toArray, List.set_cons_zero, List.set_cons_succ])
        refine takeMove (i := 7) rfl rfl _ (by rfl) (by kernel_rfl) (by kernel_rfl) (by kernel_rfl) (fun _ _ _ _ h => h) (by rfl) HS ?_
        (try simp only [Act.put, List.setIfInBounds_toArray, List.set_cons_zero, List.set_cons_succ])
        refine takeV (i := 8) (v := ?_) rfl (by kernel_rfl) (by kernel_rfl) (by kernel_rfl) (fun _ _ _ h => h) (by rfl) ?_ HS ?_
        rotate_left
        · (intro W hW; go_simp; try with_reducible rfl)
        (try simp only [Act.put, List.setIfInBounds_toArray, List.set_cons_zero, List.set_cons_succ])
        refine takeV (i := 9) (v := ?_) rfl (by kernel_rfl) (by kernel_rfl) (by kernel_rfl) (fun _ _ _ h => h) (by rfl) ?_ HS ?_
        rotate_left
        · (intro W hW; go_simp; try with_reducible rfl)
        (try simp only [Act.put, List.setIfInBounds_toArray, List.set_cons_zero, List.set_cons_succ])
        refine takeV (i := 10) (v := ?_) rfl (by kernel_rfl) (by kernel_rfl) (by kernel_rfl) (fun _ _ _ h => h) (by rfl) ?_ HS ?_
        rotate_left
        · (intro W hW; go_simp; try with_reducible rfl)
        (try simp only [Act.put, List.setIfInBounds_toArray, List.set_cons_zero, List.set_cons_succ])
        refine takeV (i := 11) (v := ?_) rfl (by kernel_rfl) (by kernel_rfl) (by kernel_rfl) (fun _ _ _ h => h) (by rfl) ?_ HS ?_
        rotate_left
        · (intro W hW; go_simp; try with_reducible rfl)
        (try simp only [Act.put, List.setIfInBounds_toArray, List.set_cons_zero, List.set_cons_succ])
        refine takeV (i := 13) (v := ?_) rfl (by kernel_rfl) (by kernel_rfl) (by kernel_rfl) (fun _ _ _ h => h) (by rfl) ?_ HS ?_
        rotate_left
        · (intro W hW; go_simp; try with_reducible rfl)
        (try simp only [Act.put, List.setIfInBounds_toArray, List.set_cons_zero, List.set_cons_succ])
        refine branchH [12] (by kernel_rfl) (by kernel_rfl) (AllStep.cons ?_ AllStep.nil)
        refine stepH_do (i := 12) rfl (by rfl) ?_
        refine wp_buildSliceR_st H 65 4 _ rfl 71 _ (fun W => by simp only [List.map_toArray, List.map_cons, List.map_nil]; exact bs_slot4 _ _ _ _ _ _ _ _ W) ?_
        clear H
        intro gs wx H
        replace HS := HS.of H
        refine ⟨HS, ?_⟩
        (try simp only [Act.put, List.setIfInBounds_toArray, List.set_cons_zero, List.set_cons_succ])
        refine takeAssign (i := 14) rfl rfl _ (by rfl) (by kernel_rfl) (by kernel_rfl) (by kernel_rfl) (fun _ _ _ _ h => h) (by rfl) HS ?_
        (try simp only [Act.put, List.setIfInBounds_toArray, List.set_cons_zero, List.set_cons_succ])
        refine takeV (i := 15) (v := ?_) rfl (by kernel_rfl) (by kernel_rfl) (by kernel_rfl) (fun _ _ _ h => h) (by rfl) ?_ HS ?_
        rotate_left
        · (intro W hW; go_simp; try with_reducible rfl)
        (try simp only [Act.put, List.setIfInBounds_toArray, List.set_cons_zero, List.set_cons_succ])
        refine doneH (by kernel_rfl) ?_
        go_wp2_with fail
        exact bodyPost_ret (v := .tuple #[.string ⟨#[97, 99, 107]⟩, .slice (some ⟨gs, 0, none⟩) 4 4, .bool true]) (by simp [results, Tryd.results24, asAddr]) rfl (HF.out _ ((⟨#[97, 99, 107]⟩ : ByteArray), ([(1, 4), (2, 3), (9, 1048576), (10, 1073741824)] : List (Nat × Int)), true) _ (by unfold formR; simp) ((H.subm (.bl gs 71 #[.pointer (some ⟨g, 1, none⟩), .int .i64 4, .pointer (some ⟨g, 2, none⟩), .int .i64 3, .pointer (some ⟨g, 9, none⟩), .int .i64 1048576, .pointer (some ⟨g, 10, none⟩), .int .i64 1073741824] :: I)).frzN (n := 4) rfl (by omega)))
      have hm := HI.out
      have ne1 : ((e0 : Int) == 1) = false := beq_eq_false_iff_ne.2 he1
      have de1 : decide ((e0 : Int) = 1) = false := decide_eq_false he1
      have ne2 : ((e0 : Int) == 2) = false := beq_eq_false_iff_ne.2 he2
      have de2 : decide ((e0 : Int) = 2) = false := decide_eq_false he2
      have ne3 : ((e0 : Int) == 3) = false := beq_eq_false_iff_ne.2 he3
      have de3 : decide ((e0 : Int) = 3) = false := decide_eq_false he3
      have HE := Lib.hid (show e0 ≠ 1 ∧ e0 ≠ 2 ∧ e0 ≠ 3 from ⟨he1, he2, he3⟩)
      clear he1 he2 he3
      go_wp2_with (first | ((with_reducible refine here_load ?_); first | refine ldR H rfl _ _ rfl rfl (by kernel_rfl) ?_ | refine ldS H rfl _ _ rfl rfl (by rfl) ?_ | refine ldSG H (by rfl) _ _ rfl rfl (by rfl) ?_ | refine ldRG H (by rfl) _ _ rfl rfl (by kernel_rfl) ?_) | ((with_reducible refine here_store ?_); first | (refine stR H rfl _ _ _ rfl rfl rfl (by rfl) (by rfl) (by kernel_rfl) ?_; clear H; intro wx H) | (refine stS H rfl _ _ _ rfl rfl _ rfl (by rfl) (by rfl) (by rfl) ?_; clear H; intro wx H)) | ((with_reducible refine here_alloc ?_); first | (refine wpList_alloc_st H rfl 41 rfl _ act_zero ?_; clear H; intro gac4 wx H) | (refine wpList_alloc_st H rfl 71 rfl _ slot_zero ?_; clear H; intro gsl4 wx H)) | ((with_reducible refine here_box ?_); refine wpList_box_st H rfl _ _ rfl _ rfl ?_; clear H; intro gb4 wx H))
      exact bodyPost_ret (v := .tuple #[.string ⟨#[]⟩, .slice none 0 0, .bool false]) (by simp [results, Tryd.results24, asAddr]) rfl (HF.out _ ((⟨#[]⟩ : ByteArray), ([] : List (Nat × Int)), false) _ (by unfold formR; simp [HE.out.1, HE.out.2.1, HE.out.2.2]) (slIt_nil (H.subm _)))
    have hm := HI.out
    have nk1 : ((k : Int) == 1) = false := beq_eq_false_iff_ne.2 hk1
    have dk1 : decide ((k : Int) = 1) = false := decide_eq_false hk1
    have nk10 : ((k : Int) == 10) = false := beq_eq_false_iff_ne.2 hk10
    have dk10 : decide ((k : Int) = 10) = false := decide_eq_false hk10
    have nk3 : ((k : Int) == 3) = false := beq_eq_false_iff_ne.2 hk3
    have dk3 : decide ((k : Int) = 3) = false := decide_eq_false hk3
    have nk9 : ((k : Int) == 9) = false := beq_eq_false_iff_ne.2 hk9
    have dk9 : decide ((k : Int) = 9) = false := decide_eq_false hk9
    have nk8 : ((k : Int) == 8) = false := beq_eq_false_iff_ne.2 hk8
    have dk8 : decide ((k : Int) = 8) = false := decide_eq_false hk8
    have nk4 : ((k : Int) == 4) = false := beq_eq_false_iff_ne.2 hk4
    have dk4 : decide ((k : Int) = 4) = false := decide_eq_false hk4
    have nk5 : ((k : Int) == 5) = false := beq_eq_false_iff_ne.2 hk5
    have dk5 : decide ((k : Int) = 5) = false := decide_eq_false hk5
    have nk6 : ((k : Int) == 6) = false := beq_eq_false_iff_ne.2 hk6
    have dk6 : decide ((k : Int) = 6) = false := decide_eq_false hk6
    have nk7 : ((k : Int) == 7) = false := beq_eq_false_iff_ne.2 hk7
    have dk7 : decide ((k : Int) = 7) = false := decide_eq_false hk7
    have nk2 : ((k : Int) == 2) = false := beq_eq_false_iff_ne.2 hk2
    have dk2 : decide ((k : Int) = 2) = false := decide_eq_false hk2
    have HK := Lib.hid (show k ≠ 1 ∧ k ≠ 10 ∧ k ≠ 3 ∧ k ≠ 9 ∧ k ≠ 8 ∧ k ≠ 4 ∧ k ≠ 5 ∧ k ≠ 6 ∧ k ≠ 7 ∧ k ≠ 2 from ⟨hk1, hk10, hk3, hk9, hk8, hk4, hk5, hk6, hk7, hk2⟩)
    clear hk1 hk10 hk3 hk9 hk8 hk4 hk5 hk6 hk7 hk2
    go_wp2_with (first | ((with_reducible refine here_load ?_); first | refine ldR H rfl _ _ rfl rfl (by kernel_rfl) ?_ | refine ldS H rfl _ _ rfl rfl (by rfl) ?_ | refine ldSG H (by rfl) _ _ rfl rfl (by rfl) ?_ | refine ldRG H (by rfl) _ _ rfl rfl (by kernel_rfl) ?_) | ((with_reducible refine here_store ?_); first | (refine stR H rfl _ _ _ rfl rfl rfl (by rfl) (by rfl) (by kernel_rfl) ?_; clear H; intro wx H) | (refine stS H rfl _ _ _ rfl rfl _ rfl (by rfl) (by rfl) (by rfl) ?_; clear H; intro wx H)) | ((with_reducible refine here_alloc ?_); first | (refine wpList_alloc_st H rfl 41 rfl _ act_zero ?_; clear H; intro gac4 wx H) | (refine wpList_alloc_st H rfl 71 rfl _ slot_zero ?_; clear H; intro gsl4 wx H)) | ((with_reducible refine here_box ?_); refine wpList_box_st H rfl _ _ rfl _ rfl ?_; clear H; intro gb4 wx H))
    obtain ⟨hk1, hk10, hk3, hk9, hk8, hk4, hk5, hk6, hk7, hk2⟩ := HK.out
    exact bodyPost_ret (v := .tuple #[.string ⟨#[]⟩, .slice none 0 0, .bool false]) (by simp [results, Tryd.results24, asAddr]) rfl (HF.out _ ((⟨#[]⟩ : ByteArray), ([] : List (Nat × Int)), false) _ (by unfold formR; simp [hk1, hk10, hk3, hk9, hk8, hk4, hk5, hk6, hk7, hk2]) (slIt_nil (H.subm _)))

end Go.Proofs.YtjakmpkfniangaaDoor
