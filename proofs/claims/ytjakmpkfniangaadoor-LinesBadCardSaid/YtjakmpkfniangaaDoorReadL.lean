/- lines.Read at any text. -/
import Derived.Lib.AtoiAllCases
import Derived.Test.YtjakmpkfniangaaDoorRng
import Derived.Test.YtjakmpkfniangaaDoorShow
import Derived.Test.YtjakmpkfniangaaDoorAct
namespace Go.Proofs.YtjakmpkfniangaaDoor
open Go.RowKit

set_option linter.unusedVariables false
open Go.Lib
attribute [local go_sem] Oper.semAt_some
theorem actR_len (s : ByteArray) : (actR s).length = 11 := by
  unfold actR actW
  rw [actAcc_len, kindR_len]
theorem atoiV_i64 (s : ByteArray) : -9223372036854775808 ≤ atoiV s ∧ atoiV s ≤ 9223372036854775807 := by
  unfold atoiV
  cases h : atoiAll s.data.toList with
  | ok v => exact atoiAll_bounds h
  | range => exact atoiSat_bounds _
  | _ => exact ⟨show (-9223372036854775808 : Int) ≤ 0 by decide, show (0 : Int) ≤ 9223372036854775807 by decide⟩
theorem i64s_set {vs : List Int} (h : I64s vs) (j : Nat) {v : Int} (hv : -9223372036854775808 ≤ v ∧ v ≤ 9223372036854775807) : I64s (vs.set j v) := fun x hx => by
  rcases List.mem_or_eq_of_mem_set hx with h' | rfl
  · exact h x h'
  · exact hv
theorem actAcc_i64 (ws : List ByteArray) (ss : List (Nat × Int)) : ∀ (vs : List Int) (i : Nat), I64s vs → I64s (actAcc ws vs i ss) := by
  induction ss with
  | nil => exact fun vs i h => h
  | cons x ss ih =>
    intro vs i h
    refine ih _ _ ?_
    unfold stepA
    split
    · exact i64s_set h _ (atoiV_i64 _)
    · exact h
theorem kindR_i64 (w : ByteArray) : I64s (kindR w) := by
  unfold kindR
  split
  · next i h =>
    have hi : i < 40 := List.mem_range.1 (List.mem_of_find?_eq_some h)
    intro v hv
    simp [bareL] at hv
    omega
  · intro v hv
    simp [bareL] at hv
    omega
theorem actR_i64 (s : ByteArray) : I64s (actR s) := actAcc_i64 _ _ _ _ (kindR_i64 _)
/-- what is read of a text -/
def readGo : Nat → ByteArray → List (List Int) → List (List Int) × Int × Int
  | 0, _, al => (al, 0, 0)
  | f + 1, s, al =>
    if s.size = 0 then (al, 0, 0)
    else if al.length = 100000 then ([], al.length, 14)
    else if checkR (actR (cutLn s).1) = 0 ∧ lineR (actR (cutLn s).1) = (cutLn s).1 then readGo f (cutLn s).2 (al ++ [actR (cutLn s).1])
    else ([], al.length, 3)
def readR (s : ByteArray) : List (List Int) × Int × Int := if 4000000 < s.size then ([], 0, 1) else readGo s.size s []
theorem readGo_nil (f : Nat) (al : List (List Int)) : readGo f ⟨#[]⟩ al = (al, 0, 0) := by
  cases f <;> rfl
theorem readGo_step {f : Nat} {s : ByteArray} (hf : s.size ≤ f) (h0 : 0 < s.size) (al : List (List Int)) : ∃ f', (cutLn s).2.size ≤ f' ∧ readGo f s al = if al.length = 100000 then (([] : List (List Int)), (al.length : Int), (14 : Int))
    else if checkR (actR (cutLn s).1) = 0 ∧ lineR (actR (cutLn s).1) = (cutLn s).1 then readGo f' (cutLn s).2 (al ++ [actR (cutLn s).1])
    else ([], al.length, 3) := by
  cases f with
  | zero => omega
  | succ f =>
    have := cutLn_size s h0
    refine ⟨f, by omega, ?_⟩
    rw [readGo, if_neg (by omega)]
theorem acts_snoc {al : List (List Int)} (h : Acts al) (s : ByteArray) : Acts (al ++ [actR s]) := fun a ha => by
  rcases List.mem_append.1 ha with h' | h'
  · exact h a h'
  · rw [List.mem_singleton.1 h']
    exact ⟨actR_len s, actR_i64 s⟩
theorem readGo_acts (f : Nat) : ∀ (s : ByteArray) (al : List (List Int)), Acts al → al.length ≤ 100000 → Acts (readGo f s al).1 ∧ (readGo f s al).1.length ≤ 100000 := by
  have hn : Acts [] ∧ ([] : List (List Int)).length ≤ 100000 := ⟨fun a h => (by cases h), Nat.zero_le _⟩
  induction f with
  | zero => exact fun s al h hl => ⟨h, hl⟩
  | succ f ih =>
    intro s al h hl
    unfold readGo
    split
    · exact ⟨h, hl⟩
    · split
      · exact hn
      · next h3 =>
        split
        · exact ih _ _ (acts_snoc h _) (by rw [List.length_append, List.length_singleton]; omega)
        · exact hn
theorem readR_acts (s : ByteArray) : Acts (readR s).1 ∧ (readR s).1.length ≤ 100000 := by
  have hn : Acts [] ∧ ([] : List (List Int)).length ≤ 100000 := ⟨fun a h => (by cases h), Nat.zero_le _⟩
  unfold readR
  split
  · exact hn
  · exact readGo_acts _ _ _ hn.1 hn.2
theorem lines_st {w0 w : World} {I : List It} (s : ByteArray) (H : St w0 w I) :
    Calls Tryd.prog 11 #[.string s] w (fun ed w' => ∃ gs, ed = .returned (.func (.func 19) #[] #[.pointer (some ⟨gs, 0, none⟩)]) ∧ St w0 w' (.bl gs 9 #[.string s] :: I)) := by
  go_enter Tryd.func11, Tryd.ntmps11
  go_wp2_with ((with_reducible refine here_box ?_); refine wpList_box1_st H rfl 9 _ rfl _ rfl rfl ?_; clear H; intro gs wx H)
  exact bodyPost_ret (v := .func (.func 19) #[] #[.pointer (some ⟨gs, 0, none⟩)]) (by simp [results, Tryd.f11]) rfl ⟨gs, rfl, H⟩
theorem acts_zero : (Tryd.prog.info? 22).bind (·.zero) = some (.slice none 0 0) := by kernel_rfl
theorem int_zero : (Tryd.prog.info? 3).bind (·.zero) = some (.int .i64 0) := by kernel_rfl
theorem err_zero : (Tryd.prog.info? 23).bind (·.zero) = some (.int .i64 0) := by kernel_rfl
theorem act_info2 : (Tryd.prog.info? 41).map (fun i => (i.zero, i.size)) = some (some (.agg #[.int .i64 0, .int .i64 0, .int .i64 0, .int .i64 0, .int .i64 0, .int .i64 0, .int .i64 0, .int .i64 0, .int .i64 0, .int .i64 0, .int .i64 0]), 11) := by kernel_rfl
theorem act_info : (Tryd.prog.info? 41).map (fun i => (i.zero, i.size, i.bytes)) = some (some (.agg #[.int .i64 0, .int .i64 0, .int .i64 0, .int .i64 0, .int .i64 0, .int .i64 0, .int .i64 0, .int .i64 0, .int .i64 0, .int .i64 0, .int .i64 0]), 11, 88) := by kernel_rfl
theorem str_neq (a b : ByteArray) (W : World) : (binOp .neq 9 (.string a) (.string b)).run Tryd.prog W = .ok (.bool (!decide (a = b))) W := by
  simp [go_sem]
  by_cases h : a = b
  · simp [h]
  · rw [decide_eq_false h]
    exact beq_eq_false_iff_ne.2 (fun e => h (toList_inj.1 e))
theorem actsCells_snoc (al : List (List Int)) (x : List Int) : actsCells al ++ (iCells x).toList = actsCells (al ++ [x]) := by
  simp [actsCells, rowCells, iCells]
theorem St.sc {w0 w : World} {I : List It} (H : St w0 w I) (g : Nat) {t : TypeId} {v : Value} [hm : HasB I g t #[v]] : w.cell? ⟨g, 0, none⟩ = some v := ((H.blk g).cell 0).trans rfl
theorem sc_acts : (match Tryd.prog.underlying 22 with | some (.struct _) | some (.array _ _) | none => true | _ => false) = false := by kernel_rfl
instance scTy_acts : ScTy 22 := ⟨by kernel_rfl, by kernel_rfl⟩
theorem actsNil {w0 w : World} {I : List It} (H : St w0 w I) : St w0 w (actsIt none [] :: I) := H.old (s := 11) (n := 0) (A := none) (xs := []) Reads.none_
def ReadPost (w0 : World) (I : List It) (r : List (List Int) × Int × Int) (ed : Ending) (w' : World) : Prop := ∃ A c, ed = .returned (.tuple #[.slice A r.1.length c, .int .i64 r.2.1, .int .i64 r.2.2]) ∧ r.1.length ≤ c ∧ St w0 w' (actsIt A r.1 :: I)
set_option maxRecDepth 100000 in
set_option maxHeartbeats 8000000 in
theorem read_st {w0 w : World} {I : List It} (L : LibW w0) (tx : ByteArray) (H : St w0 w I) :
    Calls Tryd.prog 6 #[.string tx] w (ReadPost w0 I (readR tx)) := by
  have HF := Lib.hid (fun W r A c (hr : readR tx = r) (hc : r.1.length ≤ c) (h : St w0 W (actsIt A r.1 :: I)) => (show ReadPost w0 I (readR tx) (.returned (.tuple #[.slice A r.1.length c, .int .i64 r.2.1, .int .i64 r.2.2])) W from by rw [hr]; exact ⟨A, c, rfl, hc, h⟩))
  generalize ReadPost w0 I (readR tx) = POST at *
  refine callsIn_wide.1 (callsIn_of_wp_marks (n := 1) Tryd.func6 rfl trivial ?_)
  simp only [Tryd.ntmps6, List.size_toArray, List.length_cons, List.length_nil, Nat.reduceAdd, Nat.reduceSub, Array.replicate_succ, Array.replicate_zero, List.push_toArray, List.append_toArray, List.nil_append, List.cons_append]
  refine wpIn_wide.2 ?_
  go_upto_region 1 with ((with_reducible refine here_alloc ?_); first | (refine wpList_alloc1_st H rfl 22 rfl _ acts_zero rfl ?_; clear H; intro g2 wx H) | (refine wpList_alloc1_st H rfl 3 rfl _ int_zero rfl ?_; clear H; intro g3 wx H) | (refine wpList_alloc1_st H rfl 23 rfl _ err_zero rfl ?_; clear H; intro g4 wx H))
  by_cases hbig : 4000000 < tx.size
  · have hb1 : (4000000 : Int) < (tx.size : Int) := by omega
    go_wp2_with (first | ((with_reducible refine here_load ?_); first | refine ldR H rfl _ _ rfl rfl (by kernel_rfl) ?_ | refine ldS H rfl _ _ rfl rfl (by rfl) ?_ | refine ldSG H (by rfl) _ _ rfl rfl (by rfl) ?_ | refine ldRG H (by rfl) _ _ rfl rfl (by kernel_rfl) ?_) | ((with_reducible refine here_store ?_); first | (refine stR H rfl _ _ _ rfl rfl rfl (by rfl) (by rfl) (by kernel_rfl) ?_; clear H; intro wx H) | (refine stS H rfl _ _ _ rfl rfl _ rfl (by rfl) (by rfl) (by rfl) ?_; clear H; intro wx H)) | ((with_reducible refine here_alloc ?_); refine wpList_alloc1_st H rfl 22 rfl _ acts_zero rfl ?_; clear H; intro g5 wx H) | (go_at_call 11; (with_reducible refine (lines_st tx H).mono ?_); clear H; rintro ed wy ⟨gs, rfl, H⟩))
    have c2 := H.sc g2
    have c3 := H.sc g3
    have c4 := H.sc g4
    refine ⟨.tuple #[.slice none 0 0, .int .i64 0, .int .i64 1], ?_, HF.out _ ([], 0, 1) none 0 (by rw [readR, if_pos hbig]) (Nat.le_refl _) (actsNil (H.subm _))⟩
    simp [results, Tryd.f6, go_sem, c2, c3, c4]
  · have hb1 : ¬ (4000000 : Int) < (tx.size : Int) := by omega
    have hR : readR tx = readGo tx.size tx [] := by rw [readR, if_neg hbig]
    go_wp2_with (first | ((with_reducible refine here_load ?_); first | refine ldR H rfl _ _ rfl rfl (by kernel_rfl) ?_ | refine ldS H rfl _ _ rfl rfl (by rfl) ?_ | refine ldSG H (by rfl) _ _ rfl rfl (by rfl) ?_ | refine ldRG H (by rfl) _ _ rfl rfl (by kernel_rfl) ?_) | ((with_reducible refine here_store ?_); first | (refine stR H rfl _ _ _ rfl rfl rfl (by rfl) (by rfl) (by kernel_rfl) ?_; clear H; intro wx H) | (refine stS H rfl _ _ _ rfl rfl _ rfl (by rfl) (by rfl) (by rfl) ?_; clear H; intro wx H)) | ((with_reducible refine here_alloc ?_); refine wpList_alloc1_st H rfl 22 rfl _ acts_zero rfl ?_; clear H; intro g5 wx H) | (go_at_call 11; (with_reducible refine (lines_st tx H).mono ?_); clear H; rintro ed wy ⟨gs, rfl, H⟩))
    replace H := H.nilOwn 41 11
    refine wp_rangeLines (w0 := w0) (gs := gs) (N := tx.size)
      (fun t : Value × List (List Int) => .ow 41 11 t.1 t.2.length (actsCells t.2) :: .bl g5 22 #[t.1] :: .bl g4 23 #[.int .i64 0] :: .bl g3 3 #[.int .i64 0] :: .bl g2 22 #[.slice none 0 0] :: I)
      (fun k : Int × Int => .bl g4 23 #[.int .i64 k.2] :: .bl g3 3 #[.int .i64 k.1] :: .bl g2 22 #[.slice none 0 0] :: I)
      (fun s t => ∃ f, s.size ≤ f ∧ readGo tx.size tx [] = readGo f s t.2 ∧ t.2.length ≤ 100000 ∧ ∃ A c, t.1 = .slice A t.2.length c ∧ t.2.length ≤ c)
      (fun k => readGo tx.size tx [] = ([], k.1, k.2))
      (fun line => ⟨#[.string tx, undef, .pointer (some ⟨g2, 0, none⟩), .pointer (some ⟨g3, 0, none⟩), .pointer (some ⟨g4, 0, none⟩), .pointer (some ⟨g5, 0, none⟩), .string line, undef, .string tx, .int .i64 tx.size, .bool false, .string tx, .func (.func 19) #[] #[.pointer (some ⟨gs, 0, none⟩)], .string line, undef, undef, undef, undef, undef, undef, undef, undef, undef, undef, undef, undef, undef, undef, undef, undef, undef, undef, undef, undef, undef, undef, undef], []⟩)
      rfl (by omega) tx (.slice none 0 0, []) (Nat.le_refl _) ⟨tx.size, Nat.le_refl _, rfl, Nat.zero_le _, none, 0, rfl, Nat.le_refl _⟩ (show St w0 wy (.bl gs 9 #[.string tx] :: .ow 41 11 (.slice none 0 0) 0 [] :: .bl g5 22 #[.slice none 0 0] :: .bl g4 23 #[.int .i64 0] :: .bl g3 3 #[.int .i64 0] :: .bl g2 22 #[.slice none 0 0] :: I) from H.subm _) ?assign ?body ?done ?stop
    case assign =>
      intro l line W K hK
      gi_wp2
      exact hK
    case body =>
      clear H
      intro l D r s t W hsN hs0 hv H
      obtain ⟨v, al⟩ := t
      obtain ⟨f, hf, hgo, hlen, A, c, hA, hc⟩ := hv
      dsimp only at hgo hlen hA hc H ⊢
      subst hA
      obtain ⟨f', hf', hst⟩ := readGo_step hf hs0 al
      rw [hst] at hgo
      clear hst hf
      have hln := cutLn_size1 s
      generalize hcl : (cutLn s).1 = line at *
      generalize hcr : (cutLn s).2 = rest at *
      have HGO := Lib.hid hgo
      have hal : (actR line).length = 11 := actR_len line
      have hai : I64s (actR line) := actR_i64 line
      have hasz : line.size < 4294967281 := by omega
      have CA := Lib.hid (fun W J (H : St w0 W J) => act_st (w0 := w0) (w := W) (I := J) L line hasz H)
      have CK := Lib.hid (fun W J (H : St w0 W J) => lcheck_st (w0 := w0) (w := W) (I := J) (actR line) hal H)
      have CL := Lib.hid (fun W J (H : St w0 W J) => line_st (w0 := w0) (w := W) (I := J) L (actR line) hal hai H)
      generalize actR line = vs at *
      obtain ⟨n, hn⟩ : ∃ n, al.length = n := ⟨_, rfl⟩
      rw [hn] at hlen hc H HGO
      have HN := Lib.hid hn
      have HAL := Lib.hid hal
      have HF2 := Lib.hid hf'
      clear hn hgo hs0 hsN hf' hln hcl hcr hasz hai
      apply wpIn_block
      apply wpIn_seq_k
      intro K1 hK1
      apply wpIn_seq_k
      intro K2 hK2
      refine regionIn_of l (by (repeat (first | with_reducible apply then_keeps | with_reducible apply inBlock_keeps)); exact RBPost.keeps) rfl ?_
      by_cases hful : n = 100000
      · have e1 : ((n : Int) == 100000) = true := by simp; omega
        have HG := Lib.hid (show readGo tx.size tx [] = (([] : List (List Int)), (n : Int), (14 : Int)) from by rw [HGO.out, if_pos hful])
        have HNF := Lib.hid hful
        clear hful
        go_wp2_with (first | ((with_reducible refine here_load ?_); first | refine ldR H rfl _ _ rfl rfl (by kernel_rfl) ?_ | refine ldS H rfl _ _ rfl rfl (by rfl) ?_ | refine ldSG H (by rfl) _ _ rfl rfl (by rfl) ?_ | refine ldRG H (by rfl) _ _ rfl rfl (by kernel_rfl) ?_) | ((with_reducible refine here_store ?_); first | (refine stR H rfl _ _ _ rfl rfl rfl (by rfl) (by rfl) (by kernel_rfl) ?_; clear H; intro wx H) | (refine stS H rfl _ _ _ rfl rfl _ rfl (by rfl) (by rfl) (by rfl) ?_; clear H; intro wx H)) | ((with_reducible refine here_alloc ?_); refine wpList_alloc1_st H rfl 22 rfl _ acts_zero rfl ?_; clear H; intro g5 wx H) | (go_at_call 11; (with_reducible refine (lines_st tx H).mono ?_); clear H; rintro ed wy ⟨gs, rfl, H⟩))
        refine wpIn_cond (t := true) rfl ?_
        refine wpIn_seq_k ?_
        intro K3 hK3
        refine regionIn_of_held (S := fun _ => True) l (by (repeat (first | with_reducible apply then_keeps | with_reducible apply inBlock_keeps)); exact RBPost.keeps) rfl (by kernel_rfl) ?_
        have HS := trivial
        replace H := H.drew
        refine branchH [0, 2] (by kernel_rfl) (by kernel_rfl) (AllStep.cons ?_ (AllStep.cons ?_ AllStep.nil))
        · refine stepH_do (i := 0) rfl (by rfl) ?_
          refine wp_load1_st H 22 _ rfl rfl sc_acts (by rfl) ?_
          refine ⟨trivial, ?_⟩
          (try simp only [Act.put, List.setIfInBounds_toArray, List.set_cons_zero, List.set_cons_succ])
          refine takeV (i := 1) (v := ?_) rfl (by kernel_rfl) (by kernel_rfl) (by kernel_rfl) (fun _ _ _ h => h) (by rfl) ?_ HS ?_
          rotate_left
          · (intro W hW; go_simp; try with_reducible rfl)
          (try simp only [Act.put, List.setIfInBounds_toArray, List.set_cons_zero, List.set_cons_succ])
          refine branchH [2] (by kernel_rfl) (by kernel_rfl) (AllStep.cons ?_ AllStep.nil)
          refine stepH_do (i := 2) rfl (by rfl) ?_
          refine wp_store1_st H 22 _ _ rfl rfl (.slice none 0 0) rfl (by rfl) _ rfl (ScTy.s (t := 22)) (by rfl) (by rfl) ?_
          clear H
          intro wx H
          refine ⟨trivial, ?_⟩
          (try simp only [Act.put])
          refine branchH [3] (by kernel_rfl) (by kernel_rfl) (AllStep.cons ?_ AllStep.nil)
          refine stepH_do (i := 3) rfl (by rfl) ?_
          refine wp_store1_st H 3 _ _ rfl rfl (.int .i64 n) rfl (by rfl) _ rfl (ScTy.s (t := 3)) (by rfl) (by rfl) ?_
          clear H
          intro wx H
          refine ⟨trivial, ?_⟩
          (try simp only [Act.put])
          refine branchH [4] (by kernel_rfl) (by kernel_rfl) (AllStep.cons ?_ AllStep.nil)
          refine stepH_do (i := 4) rfl (by rfl) ?_
          refine wp_store1_st H 23 _ _ rfl rfl (.int .i64 14) rfl (by rfl) _ rfl (ScTy.s (t := 23)) (by rfl) (by rfl) ?_
          clear H
          intro wx H
          refine ⟨trivial, ?_⟩
          (try simp only [Act.put])
          refine doneH (by kernel_rfl) ?_
          gi_wp2
          (try simp only [List.setIfInBounds_toArray, List.set_cons_zero] at H)
          exact ⟨(n, 14), HG.out, show St w0 _ (.raw l (.loop r) :: .raw D (.deferred (some [])) :: .bl g4 23 #[.int .i64 14] :: .bl g3 3 #[.int .i64 n] :: .bl g2 22 #[.slice none 0 0] :: I) from H.subm _⟩
        · refine stepH_do (i := 2) rfl (by rfl) ?_
          refine wp_store1_st H 22 _ _ rfl rfl (.slice none 0 0) rfl (by rfl) _ rfl (ScTy.s (t := 22)) (by rfl) (by rfl) ?_
          clear H
          intro wx H
          refine ⟨trivial, ?_⟩
          (try simp only [Act.put])
          refine branchH [0] (by kernel_rfl) (by kernel_rfl) (AllStep.cons ?_ AllStep.nil)
          refine stepH_do (i := 0) rfl (by rfl) ?_
          refine wp_load1_st H 22 _ rfl rfl sc_acts (by rfl) ?_
          refine ⟨trivial, ?_⟩
          (try simp only [Act.put, List.setIfInBounds_toArray, List.set_cons_zero, List.set_cons_succ])
          refine takeV (i := 1) (v := ?_) rfl (by kernel_rfl) (by kernel_rfl) (by kernel_rfl) (fun _ _ _ h => h) (by rfl) ?_ HS ?_
          rotate_left
          · (intro W hW; go_simp; try with_reducible rfl)
          (try simp only [Act.put, List.setIfInBounds_toArray, List.set_cons_zero, List.set_cons_succ])
          refine branchH [3] (by kernel_rfl) (by kernel_rfl) (AllStep.cons ?_ AllStep.nil)
          refine stepH_do (i := 3) rfl (by rfl) ?_
          refine wp_store1_st H 3 _ _ rfl rfl (.int .i64 n) rfl (by rfl) _ rfl (ScTy.s (t := 3)) (by rfl) (by rfl) ?_
          clear H
          intro wx H
          refine ⟨trivial, ?_⟩
          (try simp only [Act.put])
          refine branchH [4] (by kernel_rfl) (by kernel_rfl) (AllStep.cons ?_ AllStep.nil)
          refine stepH_do (i := 4) rfl (by rfl) ?_
          refine wp_store1_st H 23 _ _ rfl rfl (.int .i64 14) rfl (by rfl) _ rfl (ScTy.s (t := 23)) (by rfl) (by rfl) ?_
          clear H
          intro wx H
          refine ⟨trivial, ?_⟩
          (try simp only [Act.put])
          refine doneH (by kernel_rfl) ?_
          gi_wp2
          (try simp only [List.setIfInBounds_toArray, List.set_cons_zero] at H)
          exact ⟨(n, 14), HG.out, show St w0 _ (.raw l (.loop r) :: .raw D (.deferred (some [])) :: .bl g4 23 #[.int .i64 14] :: .bl g3 3 #[.int .i64 n] :: .bl g2 22 #[.slice none 0 0] :: I) from H.subm _⟩
      · have e1 : ((n : Int) == 100000) = false := by simp; omega
        have hful2 : n < 100000 := by omega
        rw [if_neg hful] at HGO
        clear hful
        go_wp2_with (first | ((with_reducible refine here_load ?_); first | refine ldR H rfl _ _ rfl rfl (by kernel_rfl) ?_ | refine ldS H rfl _ _ rfl rfl (by rfl) ?_ | refine ldSG H (by rfl) _ _ rfl rfl (by rfl) ?_ | refine ldRG H (by rfl) _ _ rfl rfl (by kernel_rfl) ?_) | ((with_reducible refine here_store ?_); first | (refine stR H rfl _ _ _ rfl rfl rfl (by rfl) (by rfl) (by kernel_rfl) ?_; clear H; intro wx H) | (refine stS H rfl _ _ _ rfl rfl _ rfl (by rfl) (by rfl) (by rfl) ?_; clear H; intro wx H)) | ((with_reducible refine here_alloc ?_); refine wpList_alloc1_st H rfl 22 rfl _ acts_zero rfl ?_; clear H; intro g5 wx H) | (go_at_call 11; (with_reducible refine (lines_st tx H).mono ?_); clear H; rintro ed wy ⟨gs, rfl, H⟩))
        refine wpIn_cond (t := false) rfl ?_
        refine wpIn_skip ?_
        refine hK1 _ _ ?_
        apply wpIn_seq_k
        intro K1 hK1
        refine regionIn_of l (by (repeat (first | with_reducible apply then_keeps | with_reducible apply inBlock_keeps)); exact RBPost.keeps) rfl ?_
        go_wp2_with (first | (go_at_call 12; (with_reducible refine (CA.out _ _ H).mono ?_); clear H; rintro ed wx ⟨rfl, H⟩) | ((with_reducible refine here_alloc ?_); refine wpList_alloc_st H rfl 41 rfl _ act_zero ?_; clear H; intro g7 wx H) | ((with_reducible refine here_store ?_); refine stR H rfl _ _ _ rfl rfl rfl ((iCells_size vs).trans HAL.out) (by rw [iCells_size, HAL.out]; rfl) (iCells_one _) ?_; clear H; intro wx H))
        apply wpIn_seq_k
        intro K1 hK1
        apply wpIn_seq_k
        intro K2 hK2
        refine regionIn_of l (by (repeat (first | with_reducible apply then_keeps | with_reducible apply inBlock_keeps)); exact RBPost.keeps) rfl ?_
        obtain ⟨ck, hck⟩ : ∃ ck, checkR vs = ck := ⟨_, rfl⟩
        obtain ⟨ln, hlnn⟩ : ∃ ln, lineR vs = ln := ⟨_, rfl⟩
        rw [hck, hlnn] at HGO
        rw [hck] at CK
        rw [hlnn] at CL
        clear hck hlnn
        by_cases hc0 : ck = 0
        · subst hc0
          by_cases hl0 : ln = line
          · subst hl0
            have HG := Lib.hid (show readGo tx.size tx [] = readGo f' rest (al ++ [vs]) from by rw [HGO.out, if_pos ⟨rfl, rfl⟩])
            clear HGO
            go_wp2_with (first | ((with_reducible refine here_load ?_); first | refine ldR H rfl _ _ rfl rfl ((iCells_size vs).trans HAL.out) ?_ | refine ldRG H (by rfl) _ _ rfl rfl ((iCells_size vs).trans HAL.out) ?_) | (go_at_call 13; (with_reducible refine (CK.out _ _ H).mono ?_); clear H; rintro ed wx ⟨rfl, H⟩) | (go_at_call 14; (with_reducible refine (CL.out _ _ H).mono ?_); clear H; rintro ed wx ⟨rfl, H⟩))
            refine wpIn_cond (t := false) rfl ?_
            refine wpIn_skip ?_
            refine hK1 _ _ ?_
            refine regionIn_of l (by (repeat (first | with_reducible apply then_keeps | with_reducible apply inBlock_keeps)); exact RBPost.keeps) rfl ?_
            go_wp2_with (first | ((with_reducible refine here_load ?_); first | refine ldR H rfl _ _ rfl rfl ((iCells_size vs).trans HAL.out) ?_ | refine ldRG H (by rfl) _ _ rfl rfl ((iCells_size vs).trans HAL.out) ?_) | ((with_reducible refine here_load ?_); first | refine ldR H rfl _ _ rfl rfl (by kernel_rfl) ?_ | refine ldS H rfl _ _ rfl rfl (by rfl) ?_ | refine ldSG H (by rfl) _ _ rfl rfl (by rfl) ?_ | refine ldRG H (by rfl) _ _ rfl rfl (by kernel_rfl) ?_) | ((with_reducible refine here_store ?_); first | (refine stR H rfl _ _ _ rfl rfl rfl (by rfl) (by rfl) (by kernel_rfl) ?_; clear H; intro wx H) | (refine stS H rfl _ _ _ rfl rfl _ rfl (by rfl) (by rfl) (by rfl) ?_; clear H; intro wx H)) | ((with_reducible refine here_buildSlice ?_); refine wpList_buildSlice1_st H rfl 22 _ rfl 41 Tryd.underlying22 (iCells vs) rfl _ (by rw [iCells_size, HAL.out]; exact act_info2) (by rw [iCells_size, HAL.out]; rfl) (by rw [iCells_size, HAL.out]; rfl) ?_; clear H; intro gb wx H) | ((with_reducible refine here_call ?_); refine wpList_appendB_st (v := .slice A n c) H rfl _ _ 22 rfl rfl rfl Tryd.underlying22 _ _ act_info (by rfl) (by rfl) ((iCells_size vs).trans HAL.out) (iCells_one _) (by simp only [maxLen]; omega) (by omega) ?_; clear H; intro A6 c6 wx hc16 hc26 H))
            have HL2 : (al ++ [vs]).length = n + 1 := by rw [List.length_append, HN.out]; rfl
            refine ⟨(.slice A6 (n + 1) c6, al ++ [vs]), ⟨f', HF2.out, HG.out, by rw [HL2]; exact hful2, A6, c6, by rw [HL2], by rw [HL2]; exact hc16⟩, ?_⟩
            rw [actsCells_snoc] at H
            replace H : St w0 _ (.bl gb 41 (iCells vs) :: .bl g7 41 (iCells vs) :: .raw l (.loop r) :: .raw D (.deferred (some [])) :: .bl gs 9 #[.string rest] :: .ow 41 11 (.slice A6 (n + 1) c6) (n + 1) (actsCells (al ++ [vs])) :: .bl g5 22 #[.slice A6 (n + 1) c6] :: .bl g4 23 #[.int .i64 0] :: .bl g3 3 #[.int .i64 0] :: .bl g2 22 #[.slice none 0 0] :: I) := H
            show St w0 _ (.raw l (.loop r) :: .raw D (.deferred (some [])) :: .bl gs 9 #[.string rest] :: .ow 41 11 (.slice A6 (n + 1) c6) (al ++ [vs]).length (actsCells (al ++ [vs])) :: .bl g5 22 #[.slice A6 (n + 1) c6] :: .bl g4 23 #[.int .i64 0] :: .bl g3 3 #[.int .i64 0] :: .bl g2 22 #[.slice none 0 0] :: I)
            rw [HL2]
            exact H.subm _
          · have HG := Lib.hid (show readGo tx.size tx [] = (([] : List (List Int)), (n : Int), (3 : Int)) from by rw [HGO.out, if_neg (fun h => hl0 h.2)])
            have e3 : (ln.toList == line.toList) = false := beq_eq_false_iff_ne.2 (fun e => hl0 (toList_inj.1 e))
            clear HGO hl0
            go_wp2_with (first | ((with_reducible refine here_load ?_); first | refine ldR H rfl _ _ rfl rfl ((iCells_size vs).trans HAL.out) ?_ | refine ldRG H (by rfl) _ _ rfl rfl ((iCells_size vs).trans HAL.out) ?_) | (go_at_call 13; (with_reducible refine (CK.out _ _ H).mono ?_); clear H; rintro ed wx ⟨rfl, H⟩) | (go_at_call 14; (with_reducible refine (CL.out _ _ H).mono ?_); clear H; rintro ed wx ⟨rfl, H⟩))
            refine wpIn_cond (t := true) rfl ?_
            refine wpIn_seq_k ?_
            intro K3 hK3
            refine regionIn_of_held (S := fun _ => True) l (by (repeat (first | with_reducible apply then_keeps | with_reducible apply inBlock_keeps)); exact RBPost.keeps) rfl (by kernel_rfl) ?_
            have HS := trivial
            replace H := H.drew
            refine branchH [0, 2] (by kernel_rfl) (by kernel_rfl) (AllStep.cons ?_ (AllStep.cons ?_ AllStep.nil))
            · refine stepH_do (i := 0) rfl (by rfl) ?_
              refine wp_load1_st H 22 _ rfl rfl sc_acts (by rfl) ?_
              refine ⟨trivial, ?_⟩
              (try simp only [Act.put, List.setIfInBounds_toArray, List.set_cons_zero, List.set_cons_succ])
              refine takeV (i := 1) (v := ?_) rfl (by kernel_rfl) (by kernel_rfl) (by kernel_rfl) (fun _ _ _ h => h) (by rfl) ?_ HS ?_
              rotate_left
              · (intro W hW; go_simp; try with_reducible rfl)
              (try simp only [Act.put, List.setIfInBounds_toArray, List.set_cons_zero, List.set_cons_succ])
              refine branchH [2] (by kernel_rfl) (by kernel_rfl) (AllStep.cons ?_ AllStep.nil)
              refine stepH_do (i := 2) rfl (by rfl) ?_
              refine wp_store1_st H 22 _ _ rfl rfl (.slice none 0 0) rfl (by rfl) _ rfl (ScTy.s (t := 22)) (by rfl) (by rfl) ?_
              clear H
              intro wx H
              refine ⟨trivial, ?_⟩
              (try simp only [Act.put])
              refine branchH [3] (by kernel_rfl) (by kernel_rfl) (AllStep.cons ?_ AllStep.nil)
              refine stepH_do (i := 3) rfl (by rfl) ?_
              refine wp_store1_st H 3 _ _ rfl rfl (.int .i64 n) rfl (by rfl) _ rfl (ScTy.s (t := 3)) (by rfl) (by rfl) ?_
              clear H
              intro wx H
              refine ⟨trivial, ?_⟩
              (try simp only [Act.put])
              refine branchH [4] (by kernel_rfl) (by kernel_rfl) (AllStep.cons ?_ AllStep.nil)
              refine stepH_do (i := 4) rfl (by rfl) ?_
              refine wp_store1_st H 23 _ _ rfl rfl (.int .i64 3) rfl (by rfl) _ rfl (ScTy.s (t := 23)) (by rfl) (by rfl) ?_
              clear H
              intro wx H
              refine ⟨trivial, ?_⟩
              (try simp only [Act.put])
              refine doneH (by kernel_rfl) ?_
              gi_wp2
              (try simp only [List.setIfInBounds_toArray, List.set_cons_zero] at H)
              exact ⟨(n, 3), HG.out, show St w0 _ (.raw l (.loop r) :: .raw D (.deferred (some [])) :: .bl g4 23 #[.int .i64 3] :: .bl g3 3 #[.int .i64 n] :: .bl g2 22 #[.slice none 0 0] :: I) from H.subm _⟩
            · refine stepH_do (i := 2) rfl (by rfl) ?_
              refine wp_store1_st H 22 _ _ rfl rfl (.slice none 0 0) rfl (by rfl) _ rfl (ScTy.s (t := 22)) (by rfl) (by rfl) ?_
              clear H
              intro wx H
              refine ⟨trivial, ?_⟩
              (try simp only [Act.put])
              refine branchH [0] (by kernel_rfl) (by kernel_rfl) (AllStep.cons ?_ AllStep.nil)
              refine stepH_do (i := 0) rfl (by rfl) ?_
              refine wp_load1_st H 22 _ rfl rfl sc_acts (by rfl) ?_
              refine ⟨trivial, ?_⟩
              (try simp only [Act.put, List.setIfInBounds_toArray, List.set_cons_zero, List.set_cons_succ])
              refine takeV (i := 1) (v := ?_) rfl (by kernel_rfl) (by kernel_rfl) (by kernel_rfl) (fun _ _ _ h => h) (by rfl) ?_ HS ?_
              rotate_left
              · (intro W hW; go_simp; try with_reducible rfl)
              (try simp only [Act.put, List.setIfInBounds_toArray, List.set_cons_zero, List.set_cons_succ])
              refine branchH [3] (by kernel_rfl) (by kernel_rfl) (AllStep.cons ?_ AllStep.nil)
              refine stepH_do (i := 3) rfl (by rfl) ?_
              refine wp_store1_st H 3 _ _ rfl rfl (.int .i64 n) rfl (by rfl) _ rfl (ScTy.s (t := 3)) (by rfl) (by rfl) ?_
              clear H
              intro wx H
              refine ⟨trivial, ?_⟩
              (try simp only [Act.put])
              refine branchH [4] (by kernel_rfl) (by kernel_rfl) (AllStep.cons ?_ AllStep.nil)
              refine stepH_do (i := 4) rfl (by rfl) ?_
              refine wp_store1_st H 23 _ _ rfl rfl (.int .i64 3) rfl (by rfl) _ rfl (ScTy.s (t := 23)) (by rfl) (by rfl) ?_
              clear H
              intro wx H
              refine ⟨trivial, ?_⟩
              (try simp only [Act.put])
              refine doneH (by kernel_rfl) ?_
              gi_wp2
              (try simp only [List.setIfInBounds_toArray, List.set_cons_zero] at H)
              exact ⟨(n, 3), HG.out, show St w0 _ (.raw l (.loop r) :: .raw D (.deferred (some [])) :: .bl g4 23 #[.int .i64 3] :: .bl g3 3 #[.int .i64 n] :: .bl g2 22 #[.slice none 0 0] :: I) from H.subm _⟩
        · have HG := Lib.hid (show readGo tx.size tx [] = (([] : List (List Int)), (n : Int), (3 : Int)) from by rw [HGO.out, if_neg (fun h => hc0 h.1)])
          have e2 : (ck == 0) = false := by simpa using hc0
          clear HGO
          go_wp2_with (first | ((with_reducible refine here_load ?_); first | refine ldR H rfl _ _ rfl rfl ((iCells_size vs).trans HAL.out) ?_ | refine ldRG H (by rfl) _ _ rfl rfl ((iCells_size vs).trans HAL.out) ?_) | (go_at_call 13; (with_reducible refine (CK.out _ _ H).mono ?_); clear H; rintro ed wx ⟨rfl, H⟩) | (go_at_call 14; (with_reducible refine (CL.out _ _ H).mono ?_); clear H; rintro ed wx ⟨rfl, H⟩))
          refine wpIn_cond (t := true) rfl ?_
          refine wpIn_seq_k ?_
          intro K3 hK3
          refine regionIn_of_held (S := fun _ => True) l (by (repeat (first | with_reducible apply then_keeps | with_reducible apply inBlock_keeps)); exact RBPost.keeps) rfl (by kernel_rfl) ?_
          have HS := trivial
          replace H := H.drew
          refine branchH [0, 2] (by kernel_rfl) (by kernel_rfl) (AllStep.cons ?_ (AllStep.cons ?_ AllStep.nil))
          · refine stepH_do (i := 0) rfl (by rfl) ?_
            refine wp_load1_st H 22 _ rfl rfl sc_acts (by rfl) ?_
            refine ⟨trivial, ?_⟩
            (try simp only [Act.put, List.setIfInBounds_toArray, List.set_cons_zero, List.set_cons_succ])
            refine takeV (i := 1) (v := ?_) rfl (by kernel_rfl) (by kernel_rfl) (by kernel_rfl) (fun _ _ _ h => h) (by rfl) ?_ HS ?_
            rotate_left
            · (intro W hW; go_simp; try with_reducible rfl)
            (try simp only [Act.put, List.setIfInBounds_toArray, List.set_cons_zero, List.set_cons_succ])
            refine branchH [2] (by kernel_rfl) (by kernel_rfl) (AllStep.cons ?_ AllStep.nil)
            refine stepH_do (i := 2) rfl (by rfl) ?_
            refine wp_store1_st H 22 _ _ rfl rfl (.slice none 0 0) rfl (by rfl) _ rfl (ScTy.s (t := 22)) (by rfl) (by rfl) ?_
            clear H
            intro wx H
            refine ⟨trivial, ?_⟩
            (try simp only [Act.put])
            refine branchH [3] (by kernel_rfl) (by kernel_rfl) (AllStep.cons ?_ AllStep.nil)
            refine stepH_do (i := 3) rfl (by rfl) ?_
            refine wp_store1_st H 3 _ _ rfl rfl (.int .i64 n) rfl (by rfl) _ rfl (ScTy.s (t := 3)) (by rfl) (by rfl) ?_
            clear H
            intro wx H
            refine ⟨trivial, ?_⟩
            (try simp only [Act.put])
            refine branchH [4] (by kernel_rfl) (by kernel_rfl) (AllStep.cons ?_ AllStep.nil)
            refine stepH_do (i := 4) rfl (by rfl) ?_
            refine wp_store1_st H 23 _ _ rfl rfl (.int .i64 3) rfl (by rfl) _ rfl (ScTy.s (t := 23)) (by rfl) (by rfl) ?_
            clear H
            intro wx H
            refine ⟨trivial, ?_⟩
            (try simp only [Act.put])
            refine doneH (by kernel_rfl) ?_
            gi_wp2
            (try simp only [List.setIfInBounds_toArray, List.set_cons_zero] at H)
            exact ⟨(n, 3), HG.out, show St w0 _ (.raw l (.loop r) :: .raw D (.deferred (some [])) :: .bl g4 23 #[.int .i64 3] :: .bl g3 3 #[.int .i64 n] :: .bl g2 22 #[.slice none 0 0] :: I) from H.subm _⟩
          · refine stepH_do (i := 2) rfl (by rfl) ?_
            refine wp_store1_st H 22 _ _ rfl rfl (.slice none 0 0) rfl (by rfl) _ rfl (ScTy.s (t := 22)) (by rfl) (by rfl) ?_
            clear H
            intro wx H
            refine ⟨trivial, ?_⟩
            (try simp only [Act.put])
            refine branchH [0] (by kernel_rfl) (by kernel_rfl) (AllStep.cons ?_ AllStep.nil)
            refine stepH_do (i := 0) rfl (by rfl) ?_
            refine wp_load1_st H 22 _ rfl rfl sc_acts (by rfl) ?_
            refine ⟨trivial, ?_⟩
            (try simp only [Act.put, List.setIfInBounds_toArray, List.set_cons_zero, List.set_cons_succ])
            refine takeV (i := 1) (v := ?_) rfl (by kernel_rfl) (by kernel_rfl) (by kernel_rfl) (fun _ _ _ h => h) (by rfl) ?_ HS ?_
            rotate_left
            · (intro W hW; go_simp; try with_reducible rfl)
            (try simp only [Act.put, List.setIfInBounds_toArray, List.set_cons_zero, List.set_cons_succ])
            refine branchH [3] (by kernel_rfl) (by kernel_rfl) (AllStep.cons ?_ AllStep.nil)
            refine stepH_do (i := 3) rfl (by rfl) ?_
            refine wp_store1_st H 3 _ _ rfl rfl (.int .i64 n) rfl (by rfl) _ rfl (ScTy.s (t := 3)) (by rfl) (by rfl) ?_
            clear H
            intro wx H
            refine ⟨trivial, ?_⟩
            (try simp only [Act.put])
            refine branchH [4] (by kernel_rfl) (by kernel_rfl) (AllStep.cons ?_ AllStep.nil)
            refine stepH_do (i := 4) rfl (by rfl) ?_
            refine wp_store1_st H 23 _ _ rfl rfl (.int .i64 3) rfl (by rfl) _ rfl (ScTy.s (t := 23)) (by rfl) (by rfl) ?_
            clear H
            intro wx H
            refine ⟨trivial, ?_⟩
            (try simp only [Act.put])
            refine doneH (by kernel_rfl) ?_
            gi_wp2
            (try simp only [List.setIfInBounds_toArray, List.set_cons_zero] at H)
            exact ⟨(n, 3), HG.out, show St w0 _ (.raw l (.loop r) :: .raw D (.deferred (some [])) :: .bl g4 23 #[.int .i64 3] :: .bl g3 3 #[.int .i64 n] :: .bl g2 22 #[.slice none 0 0] :: I) from H.subm _⟩
    case done =>
      clear H
      intro D t W hv H
      obtain ⟨v, al⟩ := t
      obtain ⟨f, hf, hgo, hlen, A, c, hA, hc⟩ := hv
      dsimp only at hgo hlen hA hc H ⊢
      subst hA
      rw [readGo_nil] at hgo
      have HFIN := Lib.hid (hR.trans hgo)
      obtain ⟨n, hn⟩ : ∃ n, al.length = n := ⟨_, rfl⟩
      rw [hn] at hlen hc H
      have HN := Lib.hid hn
      have HC := Lib.hid hc
      clear hn hR hgo hc
      unfold markOf
      go_wp2_with (first | ((with_reducible refine here_load ?_); first | refine ldR H rfl _ _ rfl rfl (by kernel_rfl) ?_ | refine ldS H rfl _ _ rfl rfl (by rfl) ?_ | refine ldSG H (by rfl) _ _ rfl rfl (by rfl) ?_ | refine ldRG H (by rfl) _ _ rfl rfl (by kernel_rfl) ?_) | ((with_reducible refine here_store ?_); first | (refine stR H rfl _ _ _ rfl rfl rfl (by rfl) (by rfl) (by kernel_rfl) ?_; clear H; intro wx H) | (refine stS H rfl _ _ _ rfl rfl _ rfl (by rfl) (by rfl) (by rfl) ?_; clear H; intro wx H)))
      replace H : St w0 wx (.raw D (.deferred (some [])) :: .ow 41 11 (.slice A n c) n (actsCells al) :: .bl g4 23 #[.int .i64 0] :: .bl g3 3 #[.int .i64 0] :: .bl g2 22 #[.slice A n c] :: I) := by
        replace H : St w0 wx (.raw D (.deferred (some [])) :: .bl gs 9 #[.string ⟨#[]⟩] :: .ow 41 11 (.slice A n c) n (actsCells al) :: .bl g5 22 #[.slice A n c] :: .bl g4 23 #[.int .i64 0] :: .bl g3 3 #[.int .i64 0] :: .bl g2 22 #[.slice A n c] :: I) := H
        exact H.subm _
      have H2 := H.putRaw (g := D) (o := .deferred (some [])) (o' := .deferred none)
      refine ⟨by simp, .inl ⟨_, _, rfl, run_takeDeferred (H.raw (g := D) (o := .deferred (some []))), ?_⟩⟩
      have c2 := H2.sc g2
      have c3 := H2.sc g3
      have c4 := H2.sc g4
      replace H2 : St w0 _ (.ow 41 11 (.slice A n c) n (actsCells al) :: I) := H2.subm _
      replace H2 := H2.freeze (e := 41) (A := A) (n := n) (c := c)
      refine ⟨.tuple #[.slice A n c, .int .i64 0, .int .i64 0], by simp [results, Tryd.f6, go_sem, c2, c3, c4], ?_⟩
      have h := HF.out _ (al, 0, 0) A c HFIN.out (by rw [HN.out]; exact HC.out) (by unfold actsIt; rw [HN.out]; exact H2)
      rw [HN.out] at h
      exact h
    case stop =>
      clear H
      intro D k W hk H
      obtain ⟨n, code⟩ := k
      dsimp only at hk H ⊢
      unfold markOf
      go_wp2
      have H2 := H.putRaw (g := D) (o := .deferred (some [])) (o' := .deferred none)
      refine ⟨by simp, .inl ⟨_, _, rfl, run_takeDeferred (H.raw (g := D) (o := .deferred (some []))), ?_⟩⟩
      have c2 := H2.sc g2
      have c3 := H2.sc g3
      have c4 := H2.sc g4
      refine ⟨.tuple #[.slice none 0 0, .int .i64 n, .int .i64 code], by simp [results, Tryd.f6, go_sem, c2, c3, c4], ?_⟩
      exact HF.out _ ([], n, code) none 0 (hR.trans hk) (Nat.le_refl _) (actsNil (H2.subm _))


end Go.Proofs.YtjakmpkfniangaaDoor
