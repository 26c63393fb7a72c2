/- Rebuild: Apply. And more of what the proof stands on. -/
import Derived.Deep.Cut
import Derived.Deep.DeepCutAuto
import Derived.Deep.QuietTactic
import Derived.BigQuiet
import Derived.Laws.MakeOwn
import Derived.Test.YtjmncbfmjeeneaaRB7

namespace Go.Proofs.Ytjmncbfmjeeneaa
open Go.RowKit

set_option linter.unusedVariables false
theorem peerless_is (k : Int) (w : World) : Calls Try.prog 62 #[.int .i64 k] w fun e w' => e = .returned (.bool (decide (k ≠ 3 ∧ k ≠ 4))) ∧ w' = w := by
  by_cases h3 : k = 3
  · subst h3
    go_enter Try.func62, Try.ntmps62
    go_wp2_with fail
    go_ret
    exact ⟨rfl, rfl⟩
  · have h31 : ((k : Int) != 3) = true := by simpa using h3
    have h32 : ((k : Int) == 3) = false := beq_eq_false_iff_ne.2 h3
    have h33 : decide ((k : Int) = 3) = false := decide_eq_false h3
    by_cases h4 : k = 4
    · subst h4
      go_enter Try.func62, Try.ntmps62
      go_wp2_with fail
      go_ret
      exact ⟨rfl, rfl⟩
    · have h41 : ((k : Int) != 4) = true := by simpa using h4
      have h42 : ((k : Int) == 4) = false := beq_eq_false_iff_ne.2 h4
      have h43 : decide ((k : Int) = 4) = false := decide_eq_false h4
      have h5 : decide (k ≠ 3 ∧ k ≠ 4) = true := decide_eq_true ⟨h3, h4⟩
      rw [h5]
      go_enter Try.func62, Try.ntmps62
      go_wp2_with fail
      go_ret
      exact ⟨rfl, rfl⟩
def applied (R : BM × Int) : BM × Int := if R.2 = 0 then (R.1, 0) else (⟨0, 0, 0, 0, 0, []⟩, 3)
/-- what the act of a kind does -/
def Acts (w0 : World) (k : Int) (bv rv : Array Value) (A : Option Addr) (es : List Ev) (R : BM × Int) : Prop :=
  ∃ (f : FuncId) (fn : Func) (i : Nat) (caps : Nat → Nat → Nat → Nat → Nat → Nat → Nat → Nat → Nat → Nat → List Value), Try.prog.funcs[f]? = some fn ∧ (fn.name == "runtime.NumGoroutine") = false ∧ fn.body.isSome = true ∧
    (∀ (g1 h1 g2 h2 g4 h4 g5 h5 g6 h6 : Nat), Instr.findNow (.int .i64) (.int .i64 k) (actsEs g1 h1 g2 h2 g4 h4 g5 h5 g6 h6).toList 0 = some (some (i, .func (.func f) #[] (caps g1 h1 g2 h2 g4 h4 g5 h5 g6 h6).toArray))) ∧
    ∀ W J (g1 h1 g2 h2 g4 h4 g5 h5 g6 h6 : Nat) (H : St w0 W J) (h : Has J (evIt A es)) (x1 : HasB J g1 3 #[.int .i64 1]) (y1 : HasB J h1 128 #[.func (.func 71) #[] #[]]) (x2 : HasB J g2 3 #[.int .i64 1]) (y2 : HasB J h2 128 #[.func (.func 72) #[] #[]]) (x4 : HasB J g4 3 #[.int .i64 4]) (y4 : HasB J h4 128 #[.func (.func 71) #[] #[]]) (x5 : HasB J g5 3 #[.int .i64 4]) (y5 : HasB J h5 128 #[.func (.func 74) #[] #[]]) (x6 : HasB J g6 3 #[.int .i64 3]) (y6 : HasB J h6 128 #[.func (.func 75) #[] #[]]), Calls Try.prog f ([Value.agg bv, Value.agg rv] ++ caps g1 h1 g2 h2 g4 h4 g5 h5 g6 h6).toArray W (BPost w0 J R)
set_option maxRecDepth 100000 in
set_option maxHeartbeats 8000000 in
theorem apply_st {w0 w : World} {I : List It} (r be bf bd br : Int) (es : List Ev) (A : Option Addr) (n c m : Nat) (k qu ep pe e0 e1 e2 e3 e4 e5 : Int) (R : BM × Int) (hl : es.length = n) (hb : (⟨r, be, bf, bd, br, es⟩ : BM).Ok m) (hm : m ≤ 150) (hc : n ≤ c) (hr2 : r ≠ 2) (hck : Rc.check ⟨k, qu, ep, pe, ⟨e0, e1, e2, e3, e4, e5⟩⟩ = 0) (hpe : k ≠ 3 ∧ k ≠ 4 → pe = 0) (hlen : R.1.es.length ≤ 150) (hact : Acts w0 k #[.int .i64 r, .int .i64 be, .int .i64 bf, .int .i64 bd, .int .i64 br, .slice A n c] #[.int .i64 k, .int .i64 qu, .int .i64 ep, .int .i64 pe, .int .i64 e0, .int .i64 e1, .int .i64 e2, .int .i64 e3, .int .i64 e4, .int .i64 e5] A es R) (H : St w0 w I) [h : Has I (evIt A es)] :
    Calls Try.prog 43 #[.agg (bArr ⟨r, be, bf, bd, br, es⟩ A n c), .agg #[.int .i64 k, .int .i64 qu, .int .i64 ep, .int .i64 pe, .int .i64 e0, .int .i64 e1, .int .i64 e2, .int .i64 e3, .int .i64 e4, .int .i64 e5]] w (BPost w0 I (applied R)) := by
  unfold bArr
  dsimp only at hlen ⊢
  have hn : n ≤ 150 := by have := hb.len; have h8 : n ≤ m := hl ▸ this; omega
  have HI := Lib.hid h
  have HB := Lib.hid hb
  have HL := Lib.hid hl
  have CKR := Lib.hid (fun W => ((recCheck_any k qu ep pe e0 e1 e2 e3 e4 e5 W).mono (fun ed w' h => (⟨by rw [h.1, hck], h.2⟩ : ed = .returned (.int .i64 0) ∧ Below W.heap.size W w'))))
  obtain ⟨f, fn, fi, caps, hf1, hf2, hf3, hfind, CKC0⟩ := hact
  have CKC := Lib.hid CKC0
  have HFI := Lib.hid hfind
  have HF1 := Lib.hid (show _ ∧ _ ∧ _ from ⟨hf1, hf2, hf3⟩)
  obtain ⟨r1, r2⟩ := R
  clear h hb hl hck CKC0 hfind hf1 hf2 hf3
  have r21 : ((r : Int) == 2) = false := beq_eq_false_iff_ne.2 hr2
  have r22 : decide ((r : Int) = 2) = false := decide_eq_false hr2
  have HFz := Lib.hid (fun W (hz : r2 ≠ 0) (h2 : St w0 W I) => (show BPost w0 I (applied (r1, r2)) (.returned (.tuple #[.agg #[.int .i64 0, .int .i64 0, .int .i64 0, .int .i64 0, .int .i64 0, .slice none 0 0], .int .i64 3])) W from by
    rw [show applied (r1, r2) = (⟨0, 0, 0, 0, 0, []⟩, 3) from by unfold applied; rw [if_neg hz]]
    exact (BPost.mk (r := (⟨0, 0, 0, 0, 0, []⟩, 3)) (n := 0) (c := 0) (A := none) rfl (Nat.le_refl _) (h2.old (s := 6) (n := 0) (A := none) (xs := []) Reads.none_))))
  have HFg := Lib.hid (fun W A' c' (hz : r2 = 0) (h1 : r1.es.length ≤ c') (h2 : St w0 W (evIt A' r1.es :: I)) => (show BPost w0 I (applied (r1, r2)) (.returned (.tuple #[.agg (bArr r1 A' r1.es.length c'), .int .i64 0])) W from by
    rw [show applied (r1, r2) = (r1, 0) from by unfold applied; rw [if_pos hz]]
    exact BPost.mk (r := (r1, 0)) rfl h1 h2))
  generalize BPost w0 I (applied (r1, r2)) = POST at *
  go_enter Try.func43, Try.ntmps43
  go_upto_region 7 with (first | ((with_reducible refine here_boxAt 2 ?_); refine wpList_box_st H rfl _ _ rfl _ rfl ?_; clear H; intro gb wx H) | ((with_reducible refine here_boxAt 3 ?_); refine wpList_box_st H rfl _ _ rfl _ rfl ?_; clear H; intro gx wx H) | (go_at_call 41; have h := HI.out; refine (check_st ⟨r, be, bf, bd, br, es⟩ A n c m HL.out HB.out hm hc H).mono ?_; clear H h; rintro ed wy ⟨rfl, H⟩) | (go_at_call 42; refine (CKR.out _).mono ?_; rintro ed w9 ⟨rfl, hb9⟩; replace H := H.below hb9; clear hb9) | (first | ((with_reducible refine here_load ?_); first | refine ldR H rfl _ _ rfl rfl (by kernel_rfl) ?_ | refine ldS H rfl _ _ rfl rfl (by rfl) ?_ | refine ldSG H (by rfl) _ _ rfl rfl (by rfl) ?_ | refine ldRG H (by rfl) _ _ rfl rfl (by kernel_rfl) ?_) | ((with_reducible refine here_store ?_); first | (refine stR H rfl _ _ _ rfl rfl rfl (by rfl) (by rfl) (by kernel_rfl) ?_; clear H; intro wx H) | (refine stS H rfl _ _ _ rfl rfl _ rfl (by rfl) (by rfl) (by rfl) ?_; clear H; intro wx H)) | ((with_reducible refine here_alloc ?_); first | (refine wpList_alloc_st H rfl 37 rfl _ q_zero ?_; clear H; intro gq wx H) | (refine wpList_alloc_st H rfl 48 rfl _ ans_zero ?_; clear H; intro ga wx H) | (refine wpList_alloc_st H rfl 44 rfl _ ev_zero ?_; clear H; intro ge wx H) | (refine wpList_alloc_st H rfl 58 rfl _ ber_zero ?_; clear H; intro gr wx H)) | ((with_reducible refine here_box ?_); refine wpList_box_st H rfl _ _ rfl _ rfl ?_; clear H; intro gb wx H)))
  (try simp only [Act.put])
  go_cut [2, 3, 4, 34] (fun s2 s3 s4 s34 wx => s2 = .pointer (some ⟨gb, 0, none⟩) ∧ s3 = .pointer (some ⟨gx, 0, none⟩) ∧ s4 = .pointer (some ⟨gr, 0, none⟩) ∧ s34 = .bool false ∧ St w0 wx (.bl gb 58 #[.int .i64 r, .int .i64 be, .int .i64 bf, .int .i64 bd, .int .i64 br, .slice A n c] :: .bl gx 67 #[.int .i64 k, .int .i64 qu, .int .i64 ep, .int .i64 pe, .int .i64 e0, .int .i64 e1, .int .i64 e2, .int .i64 e3, .int .i64 e4, .int .i64 e5] :: .bl gr 58 #[.int .i64 0, .int .i64 0, .int .i64 0, .int .i64 0, .int .i64 0, .slice none 0 0] :: I))
  case first =>
    by_cases hp : k ≠ 3 ∧ k ≠ 4
    · have hp1 := decide_eq_true hp
      obtain rfl := hpe hp
      clear hp hpe
      go_wp2_with (first | (go_at_call 62; refine (peerless_is _ _).mono ?_; rintro ed wy ⟨rfl, rfl⟩) | (first | ((with_reducible refine here_load ?_); first | refine ldR H rfl _ _ rfl rfl (by kernel_rfl) ?_ | refine ldS H rfl _ _ rfl rfl (by rfl) ?_ | refine ldSG H (by rfl) _ _ rfl rfl (by rfl) ?_ | refine ldRG H (by rfl) _ _ rfl rfl (by kernel_rfl) ?_) | ((with_reducible refine here_store ?_); first | (refine stR H rfl _ _ _ rfl rfl rfl (by rfl) (by rfl) (by kernel_rfl) ?_; clear H; intro wx H) | (refine stS H rfl _ _ _ rfl rfl _ rfl (by rfl) (by rfl) (by rfl) ?_; clear H; intro wx H)) | ((with_reducible refine here_alloc ?_); first | (refine wpList_alloc_st H rfl 37 rfl _ q_zero ?_; clear H; intro gq2 wx H) | (refine wpList_alloc_st H rfl 48 rfl _ ans_zero ?_; clear H; intro ga2 wx H) | (refine wpList_alloc_st H rfl 44 rfl _ ev_zero ?_; clear H; intro ge2 wx H) | (refine wpList_alloc_st H rfl 58 rfl _ ber_zero ?_; clear H; intro gr2 wx H)) | ((with_reducible refine here_box ?_); refine wpList_box_st H rfl _ _ rfl _ rfl ?_; clear H; intro gb2 wx H)))
      go_meet
      exact ⟨rfl, rfl, rfl, rfl, H.subm _⟩
    · have hp1 := decide_eq_false hp
      clear hp hpe
      go_wp2_with (first | (go_at_call 62; refine (peerless_is _ _).mono ?_; rintro ed wy ⟨rfl, rfl⟩) | (first | ((with_reducible refine here_load ?_); first | refine ldR H rfl _ _ rfl rfl (by kernel_rfl) ?_ | refine ldS H rfl _ _ rfl rfl (by rfl) ?_ | refine ldSG H (by rfl) _ _ rfl rfl (by rfl) ?_ | refine ldRG H (by rfl) _ _ rfl rfl (by kernel_rfl) ?_) | ((with_reducible refine here_store ?_); first | (refine stR H rfl _ _ _ rfl rfl rfl (by rfl) (by rfl) (by kernel_rfl) ?_; clear H; intro wx H) | (refine stS H rfl _ _ _ rfl rfl _ rfl (by rfl) (by rfl) (by rfl) ?_; clear H; intro wx H)) | ((with_reducible refine here_alloc ?_); first | (refine wpList_alloc_st H rfl 37 rfl _ q_zero ?_; clear H; intro gq2 wx H) | (refine wpList_alloc_st H rfl 48 rfl _ ans_zero ?_; clear H; intro ga2 wx H) | (refine wpList_alloc_st H rfl 44 rfl _ ev_zero ?_; clear H; intro ge2 wx H) | (refine wpList_alloc_st H rfl 58 rfl _ ber_zero ?_; clear H; intro gr2 wx H)) | ((with_reducible refine here_box ?_); refine wpList_box_st H rfl _ _ rfl _ rfl ?_; clear H; intro gb2 wx H)))
      go_meet
      exact ⟨rfl, rfl, rfl, rfl, H.subm _⟩
  case rest =>
    clear H hpe
    obtain ⟨rfl, rfl, rfl, rfl, H⟩ := hcut
    go_upto_region 9 with fail
    (try simp only [Act.put])
    go_cut [4, 8, 9] (fun s4 s8 s9 wx => ∃ g8 A9 c9, s4 = .pointer (some ⟨gr, 0, none⟩) ∧ s8 = .pointer (some ⟨g8, 0, none⟩) ∧ s9 = .int .i64 r2 ∧ r1.es.length ≤ c9 ∧ St w0 wx (.bl g8 58 (bArr r1 A9 r1.es.length c9) :: evIt A9 r1.es :: .bl gr 58 #[.int .i64 0, .int .i64 0, .int .i64 0, .int .i64 0, .int .i64 0, .slice none 0 0] :: I))
    case first =>
      refine startS (H.subm (.bl gb 58 #[.int .i64 r, .int .i64 be, .int .i64 bf, .int .i64 bd, .int .i64 br, .slice A n c] :: .bl gx 67 #[.int .i64 k, .int .i64 qu, .int .i64 ep, .int .i64 pe, .int .i64 e0, .int .i64 e1, .int .i64 e2, .int .i64 e3, .int .i64 e4, .int .i64 e5] :: I)) (by kernel_rfl) (fun HS => ?_)
      replace H := H.drew
      refine takeV (i := 1) (v := ?_) rfl (by kernel_rfl) (by kernel_rfl) (by kernel_rfl) (fun _ _ _ h => h) (by rfl) ?_ HS ?_
      rotate_left
      · (intro W hW; go_simp; try with_reducible rfl)
      (try simp only [Act.put, List.setIfInBounds_toArray, List.set_cons_zero, List.set_cons_succ])
      refine take1_st (i := 2) 3 _ rfl rfl rfl sc_int _ (by rfl) (by kernel_rfl) (by kernel_rfl) (by kernel_rfl) (fun _ _ _ _ h => h) (by rfl) HS ?_
      (try simp only [Act.put, List.setIfInBounds_toArray, List.set_cons_zero, List.set_cons_succ])
      refine takeRow_st (i := 4) 58 _ rfl rfl rfl row_Berth (by kernel_rfl) (by kernel_rfl) (by kernel_rfl) (by kernel_rfl) (fun _ _ _ _ h => h) (by rfl) HS ?_
      (try simp only [Act.put, List.setIfInBounds_toArray, List.set_cons_zero, List.set_cons_succ])
      refine takeRow_st (i := 5) 67 _ rfl rfl rfl row_Record (by kernel_rfl) (by kernel_rfl) (by kernel_rfl) (by kernel_rfl) (fun _ _ _ _ h => h) (by rfl) HS ?_
      (try simp only [Act.put, List.setIfInBounds_toArray, List.set_cons_zero, List.set_cons_succ])
      refine branchH [0, 10] (by kernel_rfl) (by kernel_rfl) (AllStep.cons ?_ (AllStep.cons ?_ AllStep.nil))
      · refine stepH_do (i := 0) rfl (by rfl) ?_
        refine wp_call_st rfl Try.func63 (by kernel_rfl) (by kernel_rfl) [] rfl ((acts_st H).mono ?_)
        clear H
        rintro ed wy ⟨gm, g1, h1, g2, h2, g4, h4, g5, h5, g6, h6, rfl, H⟩
        replace HS := HS.of H
        refine ⟨_, rfl, HS, ?_⟩
        (try simp only [Act.put, List.setIfInBounds_toArray, List.set_cons_zero, List.set_cons_succ])
        refine branchH [3, 10] (by kernel_rfl) (by kernel_rfl) (AllStep.cons ?_ (AllStep.cons ?_ AllStep.nil))
        · refine stepH_do (i := 3) rfl (by rfl) ?_
          refine wp_lookup_st H _ _ rfl rfl k rfl Try.underlying129 Try.underlying3 fi _ (HFI.out g1 h1 g2 h2 g4 h4 g5 h5 g6 h6) ?_
          replace HS := HS.of H
          refine ⟨HS, ?_⟩
          (try simp only [Act.put, List.setIfInBounds_toArray, List.set_cons_zero, List.set_cons_succ])
          refine branchH [6, 10] (by kernel_rfl) (by kernel_rfl) (AllStep.cons ?_ (AllStep.cons ?_ AllStep.nil))
          · refine stepH_do (i := 6) rfl (by rfl) ?_
            have h := HI.out
            refine wp_callv_st (caps := caps g1 h1 g2 h2 g4 h4 g5 h5 g6 h6) rfl rfl HF1.out.1 HF1.out.2.1 HF1.out.2.2 [.agg #[.int .i64 r, .int .i64 be, .int .i64 bf, .int .i64 bd, .int .i64 br, .slice A n c], .agg #[.int .i64 k, .int .i64 qu, .int .i64 ep, .int .i64 pe, .int .i64 e0, .int .i64 e1, .int .i64 e2, .int .i64 e3, .int .i64 e4, .int .i64 e5]] rfl ((CKC.out _ _ g1 h1 g2 h2 g4 h4 g5 h5 g6 h6 H inferInstance inferInstance inferInstance inferInstance inferInstance inferInstance inferInstance inferInstance inferInstance inferInstance inferInstance).mono ?_)
            clear H h
            rintro ed wy ⟨A9, c9, rfl, hc9, H⟩
            replace HS := HS.of H
            refine ⟨_, rfl, HS, ?_⟩
            (try simp only [Act.put, List.setIfInBounds_toArray, List.set_cons_zero, List.set_cons_succ])
            refine takeMove (i := 7) rfl rfl _ (by rfl) (by kernel_rfl) (by kernel_rfl) (by kernel_rfl) (fun _ _ _ _ h => h) (by rfl) HS ?_
            (try simp only [Act.put, List.setIfInBounds_toArray, List.set_cons_zero, List.set_cons_succ])
            refine takeExtract (i := 8) rfl rfl _ _ (by rfl) (by rfl) (by kernel_rfl) (by kernel_rfl) (by kernel_rfl) (fun _ _ _ _ h => h) (by rfl) HS ?_
            (try simp only [Act.put, List.setIfInBounds_toArray, List.set_cons_zero, List.set_cons_succ])
            refine takeExtract (i := 9) rfl rfl _ _ (by rfl) (by rfl) (by kernel_rfl) (by kernel_rfl) (by kernel_rfl) (fun _ _ _ _ h => h) (by rfl) HS ?_
            (try simp only [Act.put, List.setIfInBounds_toArray, List.set_cons_zero, List.set_cons_succ])
            refine branchH [10] (by kernel_rfl) (by kernel_rfl) (AllStep.cons ?_ AllStep.nil)
            refine stepH_do (i := 10) rfl (by rfl) ?_
            refine wp_alloc_st H 58 rfl _ ber_zero ?_
            clear H
            intro gr2 wx H
            replace HS := HS.of H
            refine ⟨HS, ?_⟩
            (try simp only [Act.put, List.setIfInBounds_toArray, List.set_cons_zero, List.set_cons_succ])
            refine branchH [11] (by kernel_rfl) (by kernel_rfl) (AllStep.cons ?_ AllStep.nil)
            refine stepH_do (i := 11) rfl (by rfl) ?_
            refine wp_store_st H 58 _ _ rfl rfl rfl (by kernel_rfl) (by rfl) (by kernel_rfl) ?_
            clear H
            intro wx H
            replace HS := HS.of H
            refine ⟨HS, ?_⟩
            (try simp only [Act.put])
            refine takeAssign (i := 12) rfl rfl _ (by rfl) (by kernel_rfl) (by kernel_rfl) (by kernel_rfl) (fun _ _ _ _ h => h) (by rfl) HS ?_
            (try simp only [Act.put, List.setIfInBounds_toArray, List.set_cons_zero, List.set_cons_succ])
            refine doneH (by kernel_rfl) ?_
            go_wp2_with fail
            go_meet
            exact ⟨gr2, A9, c9, rfl, rfl, rfl, hc9, H.subm _⟩
          · refine stepH_do (i := 10) rfl (by rfl) ?_
            refine wp_alloc_st H 58 rfl _ ber_zero ?_
            clear H
            intro gr2 wx H
            replace HS := HS.of H
            refine ⟨HS, ?_⟩
            (try simp only [Act.put, List.setIfInBounds_toArray, List.set_cons_zero, List.set_cons_succ])
            refine branchH [6] (by kernel_rfl) (by kernel_rfl) (AllStep.cons ?_ AllStep.nil)
            refine stepH_do (i := 6) rfl (by rfl) ?_
            have h := HI.out
            refine wp_callv_st (caps := caps g1 h1 g2 h2 g4 h4 g5 h5 g6 h6) rfl rfl HF1.out.1 HF1.out.2.1 HF1.out.2.2 [.agg #[.int .i64 r, .int .i64 be, .int .i64 bf, .int .i64 bd, .int .i64 br, .slice A n c], .agg #[.int .i64 k, .int .i64 qu, .int .i64 ep, .int .i64 pe, .int .i64 e0, .int .i64 e1, .int .i64 e2, .int .i64 e3, .int .i64 e4, .int .i64 e5]] rfl ((CKC.out _ _ g1 h1 g2 h2 g4 h4 g5 h5 g6 h6 H inferInstance inferInstance inferInstance inferInstance inferInstance inferInstance inferInstance inferInstance inferInstance inferInstance inferInstance).mono ?_)
            clear H h
            rintro ed wy ⟨A9, c9, rfl, hc9, H⟩
            replace HS := HS.of H
            refine ⟨_, rfl, HS, ?_⟩
            (try simp only [Act.put, List.setIfInBounds_toArray, List.set_cons_zero, List.set_cons_succ])
            refine takeMove (i := 7) rfl rfl _ (by rfl) (by kernel_rfl) (by kernel_rfl) (by kernel_rfl) (fun _ _ _ _ h => h) (by rfl) HS ?_
            (try simp only [Act.put, List.setIfInBounds_toArray, List.set_cons_zero, List.set_cons_succ])
            refine takeExtract (i := 8) rfl rfl _ _ (by rfl) (by rfl) (by kernel_rfl) (by kernel_rfl) (by kernel_rfl) (fun _ _ _ _ h => h) (by rfl) HS ?_
            (try simp only [Act.put, List.setIfInBounds_toArray, List.set_cons_zero, List.set_cons_succ])
            refine takeExtract (i := 9) rfl rfl _ _ (by rfl) (by rfl) (by kernel_rfl) (by kernel_rfl) (by kernel_rfl) (fun _ _ _ _ h => h) (by rfl) HS ?_
            (try simp only [Act.put, List.setIfInBounds_toArray, List.set_cons_zero, List.set_cons_succ])
            refine branchH [11] (by kernel_rfl) (by kernel_rfl) (AllStep.cons ?_ AllStep.nil)
            refine stepH_do (i := 11) rfl (by rfl) ?_
            refine wp_store_st H 58 _ _ rfl rfl rfl (by kernel_rfl) (by rfl) (by kernel_rfl) ?_
            clear H
            intro wx H
            replace HS := HS.of H
            refine ⟨HS, ?_⟩
            (try simp only [Act.put])
            refine takeAssign (i := 12) rfl rfl _ (by rfl) (by kernel_rfl) (by kernel_rfl) (by kernel_rfl) (fun _ _ _ _ h => h) (by rfl) HS ?_
            (try simp only [Act.put, List.setIfInBounds_toArray, List.set_cons_zero, List.set_cons_succ])
            refine doneH (by kernel_rfl) ?_
            go_wp2_with fail
            go_meet
            exact ⟨gr2, A9, c9, rfl, rfl, rfl, hc9, H.subm _⟩
        · refine stepH_do (i := 10) rfl (by rfl) ?_
          refine wp_alloc_st H 58 rfl _ ber_zero ?_
          clear H
          intro gr2 wx H
          replace HS := HS.of H
          refine ⟨HS, ?_⟩
          (try simp only [Act.put, List.setIfInBounds_toArray, List.set_cons_zero, List.set_cons_succ])
          refine branchH [3] (by kernel_rfl) (by kernel_rfl) (AllStep.cons ?_ AllStep.nil)
          refine stepH_do (i := 3) rfl (by rfl) ?_
          refine wp_lookup_st H _ _ rfl rfl k rfl Try.underlying129 Try.underlying3 fi _ (HFI.out g1 h1 g2 h2 g4 h4 g5 h5 g6 h6) ?_
          replace HS := HS.of H
          refine ⟨HS, ?_⟩
          (try simp only [Act.put, List.setIfInBounds_toArray, List.set_cons_zero, List.set_cons_succ])
          refine branchH [6] (by kernel_rfl) (by kernel_rfl) (AllStep.cons ?_ AllStep.nil)
          refine stepH_do (i := 6) rfl (by rfl) ?_
          have h := HI.out
          refine wp_callv_st (caps := caps g1 h1 g2 h2 g4 h4 g5 h5 g6 h6) rfl rfl HF1.out.1 HF1.out.2.1 HF1.out.2.2 [.agg #[.int .i64 r, .int .i64 be, .int .i64 bf, .int .i64 bd, .int .i64 br, .slice A n c], .agg #[.int .i64 k, .int .i64 qu, .int .i64 ep, .int .i64 pe, .int .i64 e0, .int .i64 e1, .int .i64 e2, .int .i64 e3, .int .i64 e4, .int .i64 e5]] rfl ((CKC.out _ _ g1 h1 g2 h2 g4 h4 g5 h5 g6 h6 H inferInstance inferInstance inferInstance inferInstance inferInstance inferInstance inferInstance inferInstance inferInstance inferInstance inferInstance).mono ?_)
          clear H h
          rintro ed wy ⟨A9, c9, rfl, hc9, H⟩
          replace HS := HS.of H
          refine ⟨_, rfl, HS, ?_⟩
          (try simp only [Act.put, List.setIfInBounds_toArray, List.set_cons_zero, List.set_cons_succ])
          refine takeMove (i := 7) rfl rfl _ (by rfl) (by kernel_rfl) (by kernel_rfl) (by kernel_rfl) (fun _ _ _ _ h => h) (by rfl) HS ?_
          (try simp only [Act.put, List.setIfInBounds_toArray, List.set_cons_zero, List.set_cons_succ])
          refine takeExtract (i := 8) rfl rfl _ _ (by rfl) (by rfl) (by kernel_rfl) (by kernel_rfl) (by kernel_rfl) (fun _ _ _ _ h => h) (by rfl) HS ?_
          (try simp only [Act.put, List.setIfInBounds_toArray, List.set_cons_zero, List.set_cons_succ])
          refine takeExtract (i := 9) rfl rfl _ _ (by rfl) (by rfl) (by kernel_rfl) (by kernel_rfl) (by kernel_rfl) (fun _ _ _ _ h => h) (by rfl) HS ?_
          (try simp only [Act.put, List.setIfInBounds_toArray, List.set_cons_zero, List.set_cons_succ])
          refine branchH [11] (by kernel_rfl) (by kernel_rfl) (AllStep.cons ?_ AllStep.nil)
          refine stepH_do (i := 11) rfl (by rfl) ?_
          refine wp_store_st H 58 _ _ rfl rfl rfl (by kernel_rfl) (by rfl) (by kernel_rfl) ?_
          clear H
          intro wx H
          replace HS := HS.of H
          refine ⟨HS, ?_⟩
          (try simp only [Act.put])
          refine takeAssign (i := 12) rfl rfl _ (by rfl) (by kernel_rfl) (by kernel_rfl) (by kernel_rfl) (fun _ _ _ _ h => h) (by rfl) HS ?_
          (try simp only [Act.put, List.setIfInBounds_toArray, List.set_cons_zero, List.set_cons_succ])
          refine doneH (by kernel_rfl) ?_
          go_wp2_with fail
          go_meet
          exact ⟨gr2, A9, c9, rfl, rfl, rfl, hc9, H.subm _⟩
      · refine stepH_do (i := 10) rfl (by rfl) ?_
        refine wp_alloc_st H 58 rfl _ ber_zero ?_
        clear H
        intro gr2 wx H
        replace HS := HS.of H
        refine ⟨HS, ?_⟩
        (try simp only [Act.put, List.setIfInBounds_toArray, List.set_cons_zero, List.set_cons_succ])
        refine branchH [0] (by kernel_rfl) (by kernel_rfl) (AllStep.cons ?_ AllStep.nil)
        refine stepH_do (i := 0) rfl (by rfl) ?_
        refine wp_call_st rfl Try.func63 (by kernel_rfl) (by kernel_rfl) [] rfl ((acts_st H).mono ?_)
        clear H
        rintro ed wy ⟨gm, g1, h1, g2, h2, g4, h4, g5, h5, g6, h6, rfl, H⟩
        replace HS := HS.of H
        refine ⟨_, rfl, HS, ?_⟩
        (try simp only [Act.put, List.setIfInBounds_toArray, List.set_cons_zero, List.set_cons_succ])
        refine branchH [3] (by kernel_rfl) (by kernel_rfl) (AllStep.cons ?_ AllStep.nil)
        refine stepH_do (i := 3) rfl (by rfl) ?_
        refine wp_lookup_st H _ _ rfl rfl k rfl Try.underlying129 Try.underlying3 fi _ (HFI.out g1 h1 g2 h2 g4 h4 g5 h5 g6 h6) ?_
        replace HS := HS.of H
        refine ⟨HS, ?_⟩
        (try simp only [Act.put, List.setIfInBounds_toArray, List.set_cons_zero, List.set_cons_succ])
        refine branchH [6] (by kernel_rfl) (by kernel_rfl) (AllStep.cons ?_ AllStep.nil)
        refine stepH_do (i := 6) rfl (by rfl) ?_
        have h := HI.out
        refine wp_callv_st (caps := caps g1 h1 g2 h2 g4 h4 g5 h5 g6 h6) rfl rfl HF1.out.1 HF1.out.2.1 HF1.out.2.2 [.agg #[.int .i64 r, .int .i64 be, .int .i64 bf, .int .i64 bd, .int .i64 br, .slice A n c], .agg #[.int .i64 k, .int .i64 qu, .int .i64 ep, .int .i64 pe, .int .i64 e0, .int .i64 e1, .int .i64 e2, .int .i64 e3, .int .i64 e4, .int .i64 e5]] rfl ((CKC.out _ _ g1 h1 g2 h2 g4 h4 g5 h5 g6 h6 H inferInstance inferInstance inferInstance inferInstance inferInstance inferInstance inferInstance inferInstance inferInstance inferInstance inferInstance).mono ?_)
        clear H h
        rintro ed wy ⟨A9, c9, rfl, hc9, H⟩
        replace HS := HS.of H
        refine ⟨_, rfl, HS, ?_⟩
        (try simp only [Act.put, List.setIfInBounds_toArray, List.set_cons_zero, List.set_cons_succ])
        refine takeMove (i := 7) rfl rfl _ (by rfl) (by kernel_rfl) (by kernel_rfl) (by kernel_rfl) (fun _ _ _ _ h => h) (by rfl) HS ?_
        (try simp only [Act.put, List.setIfInBounds_toArray, List.set_cons_zero, List.set_cons_succ])
        refine takeExtract (i := 8) rfl rfl _ _ (by rfl) (by rfl) (by kernel_rfl) (by kernel_rfl) (by kernel_rfl) (fun _ _ _ _ h => h) (by rfl) HS ?_
        (try simp only [Act.put, List.setIfInBounds_toArray, List.set_cons_zero, List.set_cons_succ])
        refine takeExtract (i := 9) rfl rfl _ _ (by rfl) (by rfl) (by kernel_rfl) (by kernel_rfl) (by kernel_rfl) (fun _ _ _ _ h => h) (by rfl) HS ?_
        (try simp only [Act.put, List.setIfInBounds_toArray, List.set_cons_zero, List.set_cons_succ])
        refine branchH [11] (by kernel_rfl) (by kernel_rfl) (AllStep.cons ?_ AllStep.nil)
        refine stepH_do (i := 11) rfl (by rfl) ?_
        refine wp_store_st H 58 _ _ rfl rfl rfl (by kernel_rfl) (by rfl) (by kernel_rfl) ?_
        clear H
        intro wx H
        replace HS := HS.of H
        refine ⟨HS, ?_⟩
        (try simp only [Act.put])
        refine takeAssign (i := 12) rfl rfl _ (by rfl) (by kernel_rfl) (by kernel_rfl) (by kernel_rfl) (fun _ _ _ _ h => h) (by rfl) HS ?_
        (try simp only [Act.put, List.setIfInBounds_toArray, List.set_cons_zero, List.set_cons_succ])
        refine doneH (by kernel_rfl) ?_
        go_wp2_with fail
        go_meet
        exact ⟨gr2, A9, c9, rfl, rfl, rfl, hc9, H.subm _⟩
    case rest =>
      clear H
      obtain ⟨g8, A9, c9, rfl, rfl, rfl, hc9, H⟩ := hcut
      by_cases hz : r2 = 0
      · have HZ0 := Lib.hid hz
        have z1 : ((r2 : Int) != 0) = false := by simp [hz]
        have z2 : ((r2 : Int) == 0) = true := by simp [hz]
        clear hz
        go_wp2_with (first | ((with_reducible refine here_call ?_); replace H := H.nilOwn 44 6; refine wpList_append_st (v := .slice none 0 0) H rfl _ _ 23 rfl rfl rfl Try.underlying23 _ _ ev_info (by rfl) (by omega) (H.evReads (es := r1.es) rfl) (qevCells_one _) (by simp only [maxLen]; omega) (by omega) ?_; clear H; intro A7 c7 wx hc7 hc7' H; simp only [Nat.zero_add, List.nil_append] at H hc7 ⊢) | (first | ((with_reducible refine here_load ?_); first | refine ldR H rfl _ _ rfl rfl (by kernel_rfl) ?_ | refine ldS H rfl _ _ rfl rfl (by rfl) ?_ | refine ldSG H (by rfl) _ _ rfl rfl (by rfl) ?_ | refine ldRG H (by rfl) _ _ rfl rfl (by kernel_rfl) ?_) | ((with_reducible refine here_store ?_); first | (refine stR H rfl _ _ _ rfl rfl rfl (by rfl) (by rfl) (by kernel_rfl) ?_; clear H; intro wx H) | (refine stS H rfl _ _ _ rfl rfl _ rfl (by rfl) (by rfl) (by rfl) ?_; clear H; intro wx H)) | ((with_reducible refine here_alloc ?_); first | (refine wpList_alloc_st H rfl 37 rfl _ q_zero ?_; clear H; intro gq3 wx H) | (refine wpList_alloc_st H rfl 48 rfl _ ans_zero ?_; clear H; intro ga3 wx H) | (refine wpList_alloc_st H rfl 44 rfl _ ev_zero ?_; clear H; intro ge3 wx H) | (refine wpList_alloc_st H rfl 58 rfl _ ber_zero ?_; clear H; intro gr3 wx H)) | ((with_reducible refine here_box ?_); refine wpList_box_st H rfl _ _ rfl _ rfl ?_; clear H; intro gb3 wx H)))
        replace H := H.freezeEvAt (A := A7) (c := c7) (n := r1.es.length) (es := r1.es) rfl
        have l4 : (loadVar 58 ⟨gr, 0, none⟩).run Try.prog wx = .ok (.agg (bArr r1 A7 r1.es.length c7)) wx := H.loadRow 58 gr row_Berth (P := Try.prog) (by kernel_rfl)
        exact bodyPost_ret (v := .tuple #[.agg (bArr r1 A7 r1.es.length c7), .int .i64 0]) (by simp [results, Try.results43, asAddr, l4]) rfl (HFg.out _ _ _ HZ0.out hc7 (H.subm _))
      · have HZ0 := Lib.hid hz
        have z1 : ((r2 : Int) != 0) = true := by simpa using hz
        have z2 : ((r2 : Int) == 0) = false := beq_eq_false_iff_ne.2 hz
        clear hz
        go_wp2_with (first | ((with_reducible refine here_load ?_); first | refine ldR H rfl _ _ rfl rfl (by kernel_rfl) ?_ | refine ldS H rfl _ _ rfl rfl (by rfl) ?_ | refine ldSG H (by rfl) _ _ rfl rfl (by rfl) ?_ | refine ldRG H (by rfl) _ _ rfl rfl (by kernel_rfl) ?_) | ((with_reducible refine here_store ?_); first | (refine stR H rfl _ _ _ rfl rfl rfl (by rfl) (by rfl) (by kernel_rfl) ?_; clear H; intro wx H) | (refine stS H rfl _ _ _ rfl rfl _ rfl (by rfl) (by rfl) (by rfl) ?_; clear H; intro wx H)) | ((with_reducible refine here_alloc ?_); first | (refine wpList_alloc_st H rfl 37 rfl _ q_zero ?_; clear H; intro gq3 wx H) | (refine wpList_alloc_st H rfl 48 rfl _ ans_zero ?_; clear H; intro ga3 wx H) | (refine wpList_alloc_st H rfl 44 rfl _ ev_zero ?_; clear H; intro ge3 wx H) | (refine wpList_alloc_st H rfl 58 rfl _ ber_zero ?_; clear H; intro gr3 wx H)) | ((with_reducible refine here_box ?_); refine wpList_box_st H rfl _ _ rfl _ rfl ?_; clear H; intro gb3 wx H))
        have l4 : (loadVar 58 ⟨gr, 0, none⟩).run Try.prog wx = .ok (.agg #[.int .i64 0, .int .i64 0, .int .i64 0, .int .i64 0, .int .i64 0, .slice none 0 0]) wx := H.loadRow 58 gr row_Berth (P := Try.prog) (by kernel_rfl)
        exact bodyPost_ret (v := .tuple #[.agg #[.int .i64 0, .int .i64 0, .int .i64 0, .int .i64 0, .int .i64 0, .slice none 0 0], .int .i64 3]) (by simp [results, Try.results43, asAddr, l4]) rfl (HFz.out _ HZ0.out (H.subm _))


end Go.Proofs.Ytjmncbfmjeeneaa

namespace Go.Proofs.Ytjmncbfmjeeneaa
open Go.RowKit

set_option linter.unusedVariables false
theorem act_create {w0 : World} (r be bf bd br : Int) (es : List Ev) (A : Option Addr) (n c m : Nat) (qu ep pe e0 e1 e2 e3 e4 e5 : Int) (hl : es.length = n) (hb : (⟨r, be, bf, bd, br, es⟩ : BM).Ok m) (hm : m ≤ 150) (hc : n ≤ c) : Acts w0 1 #[.int .i64 r, .int .i64 be, .int .i64 bf, .int .i64 bd, .int .i64 br, .slice A n c] #[.int .i64 1, .int .i64 qu, .int .i64 ep, .int .i64 pe, .int .i64 e0, .int .i64 e1, .int .i64 e2, .int .i64 e3, .int .i64 e4, .int .i64 e5] A es ((⟨r, be, bf, bd, br, es⟩ : BM).makeR ep) :=
  ⟨69, _, 0, fun _ _ _ _ _ _ _ _ _ _ => [], Try.func69, by kernel_rfl, by kernel_rfl, fun _ _ _ _ _ _ _ _ _ _ => rfl, fun W J _ _ _ _ _ _ _ _ _ _ H h _ _ _ _ _ _ _ _ _ _ => a1_st (h := h) (⟨r, be, bf, bd, br, es⟩ : BM) A n c m 1 qu ep pe e0 e1 e2 e3 e4 e5 hl hb hm hc H⟩
theorem act_begin {w0 : World} (r be bf bd br : Int) (es : List Ev) (A : Option Addr) (n c m : Nat) (qu ep pe e0 e1 e2 e3 e4 e5 : Int) (hl : es.length = n) (hb : (⟨r, be, bf, bd, br, es⟩ : BM).Ok m) (hm : m ≤ 150) (hc : n ≤ c) : Acts w0 4 #[.int .i64 r, .int .i64 be, .int .i64 bf, .int .i64 bd, .int .i64 br, .slice A n c] #[.int .i64 4, .int .i64 qu, .int .i64 ep, .int .i64 pe, .int .i64 e0, .int .i64 e1, .int .i64 e2, .int .i64 e3, .int .i64 e4, .int .i64 e5] A es ((⟨r, be, bf, bd, br, es⟩ : BM).beginR ep pe) :=
  ⟨73, _, 3, fun _ _ _ _ _ _ _ _ _ _ => [], Try.func73, by kernel_rfl, by kernel_rfl, fun _ _ _ _ _ _ _ _ _ _ => rfl, fun W J _ _ _ _ _ _ _ _ _ _ H h _ _ _ _ _ _ _ _ _ _ => a3_st (h := h) (⟨r, be, bf, bd, br, es⟩ : BM) A n c m 4 qu ep pe e0 e1 e2 e3 e4 e5 hl hb hm hc H⟩
theorem act_history {w0 : World} (r be bf bd br : Int) (es : List Ev) (A : Option Addr) (n c m M : Nat) (qu ep pe e0 e1 e2 e3 e4 e5 : Int) (hl : es.length = n) (hb : (⟨r, be, bf, bd, br, es⟩ : BM).Ok m) (hm : m ≤ 150) (hc : n ≤ c) (hr : r = 1) (he : ep = be) (hbn : (⟨r, be, bf, bd, br, es ++ [⟨e0, e1, e2, e3, e4, e5⟩]⟩ : BM).Ok M) (hM : M ≤ 150) : Acts w0 2 #[.int .i64 r, .int .i64 be, .int .i64 bf, .int .i64 bd, .int .i64 br, .slice A n c] #[.int .i64 2, .int .i64 qu, .int .i64 ep, .int .i64 pe, .int .i64 e0, .int .i64 e1, .int .i64 e2, .int .i64 e3, .int .i64 e4, .int .i64 e5] A es (((⟨r, be, bf, bd, br, es ++ [⟨e0, e1, e2, e3, e4, e5⟩]⟩ : BM), (0 : Int))) :=
  ⟨89, _, 1, fun g1 h1 g2 h2 g4 h4 g5 h5 g6 h6 => [.pointer (some ⟨g1, 0, none⟩), .pointer (some ⟨h1, 0, none⟩)], Try.func89, by kernel_rfl, by kernel_rfl, fun _ _ _ _ _ _ _ _ _ _ => rfl, fun W J g1 h1 g2 h2 g4 h4 g5 h5 g6 h6 H h x1 y1 x2 y2 x4 y4 x5 y5 x6 y6 => by
    subst he
    subst hr
    exact only_add (h := h) (h2 := x1) (h3 := y1) 1 ep bf bd br es A n c 2 qu pe e0 e1 e2 e3 e4 e5 g1 h1 _ (fun W J H h => add_st (h := h) 1 ep bf bd br es A n c m M 2 qu ep pe e0 e1 e2 e3 e4 e5 hl hb hm hc hbn hM H) H⟩
theorem act_import {w0 : World} (r be bf bd br : Int) (es : List Ev) (A : Option Addr) (n c m M : Nat) (qu ep pe e0 e1 e2 e3 e4 e5 : Int) (hl : es.length = n) (hb : (⟨r, be, bf, bd, br, es⟩ : BM).Ok m) (hm : m ≤ 150) (hc : n ≤ c) (hr : r = 4) (he : ep = be) (hbn : (⟨r, be, bf, bd, br, es ++ [⟨e0, e1, e2, e3, e4, e5⟩]⟩ : BM).Ok M) (hM : M ≤ 150) : Acts w0 5 #[.int .i64 r, .int .i64 be, .int .i64 bf, .int .i64 bd, .int .i64 br, .slice A n c] #[.int .i64 5, .int .i64 qu, .int .i64 ep, .int .i64 pe, .int .i64 e0, .int .i64 e1, .int .i64 e2, .int .i64 e3, .int .i64 e4, .int .i64 e5] A es (((⟨r, be, bf, bd, br, es ++ [⟨e0, e1, e2, e3, e4, e5⟩]⟩ : BM), (0 : Int))) :=
  ⟨89, _, 4, fun g1 h1 g2 h2 g4 h4 g5 h5 g6 h6 => [.pointer (some ⟨g4, 0, none⟩), .pointer (some ⟨h4, 0, none⟩)], Try.func89, by kernel_rfl, by kernel_rfl, fun _ _ _ _ _ _ _ _ _ _ => rfl, fun W J g1 h1 g2 h2 g4 h4 g5 h5 g6 h6 H h x1 y1 x2 y2 x4 y4 x5 y5 x6 y6 => by
    subst he
    subst hr
    exact only_add (h := h) (h2 := x4) (h3 := y4) 4 ep bf bd br es A n c 5 qu pe e0 e1 e2 e3 e4 e5 g4 h4 _ (fun W J H h => add_st (h := h) 4 ep bf bd br es A n c m M 5 qu ep pe e0 e1 e2 e3 e4 e5 hl hb hm hc hbn hM H) H⟩
theorem act_seal {w0 : World} (r be bf bd br : Int) (es : List Ev) (A : Option Addr) (n c m : Nat) (qu ep pe e0 e1 e2 e3 e4 e5 : Int) (hl : es.length = n) (hb : (⟨r, be, bf, bd, br, es⟩ : BM).Ok m) (hm : m ≤ 150) (hc : n ≤ c) (hr : r = 1) (he : ep = be) : Acts w0 3 #[.int .i64 r, .int .i64 be, .int .i64 bf, .int .i64 bd, .int .i64 br, .slice A n c] #[.int .i64 3, .int .i64 qu, .int .i64 ep, .int .i64 pe, .int .i64 e0, .int .i64 e1, .int .i64 e2, .int .i64 e3, .int .i64 e4, .int .i64 e5] A es (((⟨3, be, bf, pe, br, es⟩ : BM), (0 : Int))) :=
  ⟨89, _, 2, fun g1 h1 g2 h2 g4 h4 g5 h5 g6 h6 => [.pointer (some ⟨g2, 0, none⟩), .pointer (some ⟨h2, 0, none⟩)], Try.func89, by kernel_rfl, by kernel_rfl, fun _ _ _ _ _ _ _ _ _ _ => rfl, fun W J g1 h1 g2 h2 g4 h4 g5 h5 g6 h6 H h x1 y1 x2 y2 x4 y4 x5 y5 x6 y6 => by
    subst he
    subst hr
    exact only_seal (h := h) (h2 := x2) (h3 := y2) 1 ep bf bd br es A n c 3 qu pe e0 e1 e2 e3 e4 e5 g2 h2 _ (fun W J H h => seal_st (h := h) 1 ep bf bd br es A n c m 3 qu ep pe e0 e1 e2 e3 e4 e5 hl hb hm hc H) H⟩
theorem act_activate {w0 : World} (r be bf bd br : Int) (es : List Ev) (A : Option Addr) (n c m M : Nat) (qu ep pe e0 e1 e2 e3 e4 e5 : Int) (hl : es.length = n) (hb : (⟨r, be, bf, bd, br, es⟩ : BM).Ok m) (hm : m ≤ 150) (hc : n ≤ c) (hr : r = 4) (he : ep = be) (hbn : (⟨1, be, 0, 0, 0, es ++ [⟨4, 0, 0, 0, 0, 0⟩]⟩ : BM).Ok M) (hM : M ≤ 150) : Acts w0 6 #[.int .i64 r, .int .i64 be, .int .i64 bf, .int .i64 bd, .int .i64 br, .slice A n c] #[.int .i64 6, .int .i64 qu, .int .i64 ep, .int .i64 pe, .int .i64 e0, .int .i64 e1, .int .i64 e2, .int .i64 e3, .int .i64 e4, .int .i64 e5] A es (((⟨1, be, 0, 0, 0, es ++ [⟨4, 0, 0, 0, 0, 0⟩]⟩ : BM), (0 : Int))) :=
  ⟨89, _, 5, fun g1 h1 g2 h2 g4 h4 g5 h5 g6 h6 => [.pointer (some ⟨g5, 0, none⟩), .pointer (some ⟨h5, 0, none⟩)], Try.func89, by kernel_rfl, by kernel_rfl, fun _ _ _ _ _ _ _ _ _ _ => rfl, fun W J g1 h1 g2 h2 g4 h4 g5 h5 g6 h6 H h x1 y1 x2 y2 x4 y4 x5 y5 x6 y6 => by
    subst he
    subst hr
    exact only_lasti (h := h) (h2 := x5) (h3 := y5) 4 ep bf bd br es A n c 6 qu pe e0 e1 e2 e3 e4 e5 g5 h5 _ (fun W J H h => lasti_st (h := h) ep bf bd br es A n c m M 6 qu pe e0 e1 e2 e3 e4 e5 hl hb hm hc hbn hM H) H⟩
theorem act_forget {w0 : World} (r be bf bd br : Int) (es : List Ev) (A : Option Addr) (n c m : Nat) (qu ep pe e0 e1 e2 e3 e4 e5 : Int) (hl : es.length = n) (hb : (⟨r, be, bf, bd, br, es⟩ : BM).Ok m) (hm : m ≤ 150) (hc : n ≤ c) (hr : r = 3) (he : ep = be) (h0 : 0 ≤ ep) (h20 : ep ≤ 1048576) : Acts w0 7 #[.int .i64 r, .int .i64 be, .int .i64 bf, .int .i64 bd, .int .i64 br, .slice A n c] #[.int .i64 7, .int .i64 qu, .int .i64 ep, .int .i64 pe, .int .i64 e0, .int .i64 e1, .int .i64 e2, .int .i64 e3, .int .i64 e4, .int .i64 e5] A es ((⟨r, be, bf, bd, br, es⟩ : BM).forgetR (be + 1)) :=
  ⟨89, _, 6, fun g1 h1 g2 h2 g4 h4 g5 h5 g6 h6 => [.pointer (some ⟨g6, 0, none⟩), .pointer (some ⟨h6, 0, none⟩)], Try.func89, by kernel_rfl, by kernel_rfl, fun _ _ _ _ _ _ _ _ _ _ => rfl, fun W J g1 h1 g2 h2 g4 h4 g5 h5 g6 h6 H h x1 y1 x2 y2 x4 y4 x5 y5 x6 y6 => by
    subst he
    subst hr
    exact only_forget (h := h) (h2 := x6) (h3 := y6) 3 ep bf bd br es A n c 7 qu pe e0 e1 e2 e3 e4 e5 g6 h6 _ (fun W J H h => a5_st (h := h) ⟨3, ep, bf, bd, br, es⟩ A n c m 7 qu ep pe e0 e1 e2 e3 e4 e5 hl hb hm hc h0 h20 H) H⟩
theorem act_history_no {w0 : World} (r be bf bd br : Int) (es : List Ev) (A : Option Addr) (n c m : Nat) (qu ep pe e0 e1 e2 e3 e4 e5 : Int) (hl : es.length = n) (hb : (⟨r, be, bf, bd, br, es⟩ : BM).Ok m) (hm : m ≤ 150) (hc : n ≤ c) (hx : r ≠ 1 ∨ be ≠ ep) : Acts w0 2 #[.int .i64 r, .int .i64 be, .int .i64 bf, .int .i64 bd, .int .i64 br, .slice A n c] #[.int .i64 2, .int .i64 qu, .int .i64 ep, .int .i64 pe, .int .i64 e0, .int .i64 e1, .int .i64 e2, .int .i64 e3, .int .i64 e4, .int .i64 e5] A es ((⟨0, 0, 0, 0, 0, []⟩ : BM), (3 : Int)) :=
  ⟨89, _, 1, fun g1 h1 g2 h2 g4 h4 g5 h5 g6 h6 => [.pointer (some ⟨g1, 0, none⟩), .pointer (some ⟨h1, 0, none⟩)], Try.func89, by kernel_rfl, by kernel_rfl, fun _ _ _ _ _ _ _ _ _ _ => rfl, fun W J g1 h1 g2 h2 g4 h4 g5 h5 g6 h6 H h x1 y1 x2 y2 x4 y4 x5 y5 x6 y6 => by
    exact only_no (h2 := x1) r be bf bd br A n c 2 qu ep pe e0 e1 e2 e3 e4 e5 1 g1 h1 hx H⟩
theorem act_seal_no {w0 : World} (r be bf bd br : Int) (es : List Ev) (A : Option Addr) (n c m : Nat) (qu ep pe e0 e1 e2 e3 e4 e5 : Int) (hl : es.length = n) (hb : (⟨r, be, bf, bd, br, es⟩ : BM).Ok m) (hm : m ≤ 150) (hc : n ≤ c) (hx : r ≠ 1 ∨ be ≠ ep) : Acts w0 3 #[.int .i64 r, .int .i64 be, .int .i64 bf, .int .i64 bd, .int .i64 br, .slice A n c] #[.int .i64 3, .int .i64 qu, .int .i64 ep, .int .i64 pe, .int .i64 e0, .int .i64 e1, .int .i64 e2, .int .i64 e3, .int .i64 e4, .int .i64 e5] A es ((⟨0, 0, 0, 0, 0, []⟩ : BM), (3 : Int)) :=
  ⟨89, _, 2, fun g1 h1 g2 h2 g4 h4 g5 h5 g6 h6 => [.pointer (some ⟨g2, 0, none⟩), .pointer (some ⟨h2, 0, none⟩)], Try.func89, by kernel_rfl, by kernel_rfl, fun _ _ _ _ _ _ _ _ _ _ => rfl, fun W J g1 h1 g2 h2 g4 h4 g5 h5 g6 h6 H h x1 y1 x2 y2 x4 y4 x5 y5 x6 y6 => by
    exact only_no (h2 := x2) r be bf bd br A n c 3 qu ep pe e0 e1 e2 e3 e4 e5 1 g2 h2 hx H⟩
theorem act_import_no {w0 : World} (r be bf bd br : Int) (es : List Ev) (A : Option Addr) (n c m : Nat) (qu ep pe e0 e1 e2 e3 e4 e5 : Int) (hl : es.length = n) (hb : (⟨r, be, bf, bd, br, es⟩ : BM).Ok m) (hm : m ≤ 150) (hc : n ≤ c) (hx : r ≠ 4 ∨ be ≠ ep) : Acts w0 5 #[.int .i64 r, .int .i64 be, .int .i64 bf, .int .i64 bd, .int .i64 br, .slice A n c] #[.int .i64 5, .int .i64 qu, .int .i64 ep, .int .i64 pe, .int .i64 e0, .int .i64 e1, .int .i64 e2, .int .i64 e3, .int .i64 e4, .int .i64 e5] A es ((⟨0, 0, 0, 0, 0, []⟩ : BM), (3 : Int)) :=
  ⟨89, _, 4, fun g1 h1 g2 h2 g4 h4 g5 h5 g6 h6 => [.pointer (some ⟨g4, 0, none⟩), .pointer (some ⟨h4, 0, none⟩)], Try.func89, by kernel_rfl, by kernel_rfl, fun _ _ _ _ _ _ _ _ _ _ => rfl, fun W J g1 h1 g2 h2 g4 h4 g5 h5 g6 h6 H h x1 y1 x2 y2 x4 y4 x5 y5 x6 y6 => by
    exact only_no (h2 := x4) r be bf bd br A n c 5 qu ep pe e0 e1 e2 e3 e4 e5 4 g4 h4 hx H⟩
theorem act_activate_no {w0 : World} (r be bf bd br : Int) (es : List Ev) (A : Option Addr) (n c m : Nat) (qu ep pe e0 e1 e2 e3 e4 e5 : Int) (hl : es.length = n) (hb : (⟨r, be, bf, bd, br, es⟩ : BM).Ok m) (hm : m ≤ 150) (hc : n ≤ c) (hx : r ≠ 4 ∨ be ≠ ep) : Acts w0 6 #[.int .i64 r, .int .i64 be, .int .i64 bf, .int .i64 bd, .int .i64 br, .slice A n c] #[.int .i64 6, .int .i64 qu, .int .i64 ep, .int .i64 pe, .int .i64 e0, .int .i64 e1, .int .i64 e2, .int .i64 e3, .int .i64 e4, .int .i64 e5] A es ((⟨0, 0, 0, 0, 0, []⟩ : BM), (3 : Int)) :=
  ⟨89, _, 5, fun g1 h1 g2 h2 g4 h4 g5 h5 g6 h6 => [.pointer (some ⟨g5, 0, none⟩), .pointer (some ⟨h5, 0, none⟩)], Try.func89, by kernel_rfl, by kernel_rfl, fun _ _ _ _ _ _ _ _ _ _ => rfl, fun W J g1 h1 g2 h2 g4 h4 g5 h5 g6 h6 H h x1 y1 x2 y2 x4 y4 x5 y5 x6 y6 => by
    exact only_no (h2 := x5) r be bf bd br A n c 6 qu ep pe e0 e1 e2 e3 e4 e5 4 g5 h5 hx H⟩
theorem act_forget_no {w0 : World} (r be bf bd br : Int) (es : List Ev) (A : Option Addr) (n c m : Nat) (qu ep pe e0 e1 e2 e3 e4 e5 : Int) (hl : es.length = n) (hb : (⟨r, be, bf, bd, br, es⟩ : BM).Ok m) (hm : m ≤ 150) (hc : n ≤ c) (hx : r ≠ 3 ∨ be ≠ ep) : Acts w0 7 #[.int .i64 r, .int .i64 be, .int .i64 bf, .int .i64 bd, .int .i64 br, .slice A n c] #[.int .i64 7, .int .i64 qu, .int .i64 ep, .int .i64 pe, .int .i64 e0, .int .i64 e1, .int .i64 e2, .int .i64 e3, .int .i64 e4, .int .i64 e5] A es ((⟨0, 0, 0, 0, 0, []⟩ : BM), (3 : Int)) :=
  ⟨89, _, 6, fun g1 h1 g2 h2 g4 h4 g5 h5 g6 h6 => [.pointer (some ⟨g6, 0, none⟩), .pointer (some ⟨h6, 0, none⟩)], Try.func89, by kernel_rfl, by kernel_rfl, fun _ _ _ _ _ _ _ _ _ _ => rfl, fun W J g1 h1 g2 h2 g4 h4 g5 h5 g6 h6 H h x1 y1 x2 y2 x4 y4 x5 y5 x6 y6 => by
    exact only_no (h2 := x6) r be bf bd br A n c 7 qu ep pe e0 e1 e2 e3 e4 e5 3 g6 h6 hx H⟩

end Go.Proofs.Ytjmncbfmjeeneaa

namespace Go.Proofs.Ytjmncbfmjeeneaa
open Go.RowKit

set_option linter.unusedVariables false
instance scTy_recs : ScTy 61 := ⟨by kernel_rfl, by kernel_rfl⟩
theorem sc_recs : (match Try.prog.underlying 61 with | some (.struct _) | some (.array _ _) | none => true | _ => false) = false := by kernel_rfl
theorem s1_recs : (Try.prog.info? 61).map (·.size) = some 1 := by kernel_rfl
theorem rec_info : (Try.prog.info? 67).map (fun i => (i.zero, i.size, i.bytes)) = some (some (.agg #[.int .i64 0, .int .i64 0, .int .i64 0, .int .i64 0, .int .i64 0, .int .i64 0, .int .i64 0, .int .i64 0, .int .i64 0, .int .i64 0]), 10, 80) := by kernel_rfl
theorem rec_info2 : (Try.prog.info? 67).map (fun i => (i.zero, i.size)) = some (some (.agg #[.int .i64 0, .int .i64 0, .int .i64 0, .int .i64 0, .int .i64 0, .int .i64 0, .int .i64 0, .int .i64 0, .int .i64 0, .int .i64 0]), 10) := by kernel_rfl
def rcCells (rs : List Rc) : List Value := rs.flatMap (fun r => r.cells.toList)
theorem rcCells_snoc (rs : List Rc) (r : Rc) : rcCells rs ++ r.cells.toList = rcCells (rs ++ [r]) := by simp [rcCells]
/-- the records of a berth -/
def histOf (q ep : Int) (es : List Ev) : List Rc := ⟨1, q, ep, 0, Ev.zero⟩ :: es.map (fun e => ⟨2, q, ep, 0, e⟩)
def recsOf (q : Int) (b : BM) : List Rc := if b.role = 3 then histOf q b.ep b.es ++ [⟨3, q, b.ep, b.dst, Ev.zero⟩] else histOf q b.ep b.es
theorem histOf_len (q ep : Int) (es : List Ev) : (histOf q ep es).length = es.length + 1 := by simp [histOf]
theorem histOf_snoc (q ep : Int) (es : List Ev) (i : Nat) (hi : i < es.length) : histOf q ep (es.take i) ++ [⟨2, q, ep, 0, es.getD i .zero0⟩] = histOf q ep (es.take (i + 1)) := by
  rw [take_ev es i hi]
  simp [histOf]
/-- a block that can grow -/
theorem St.ownB {w0 w : World} {I : List It} {g s : Nat} {e : TypeId} {cs : Array Value} (H : St w0 w (.bl g e cs :: I)) (hs : cs.size = s) : St w0 w (.ow e s (.slice (some ⟨g, 0, none⟩) 1 1) 1 cs.toList :: I) := by
  have hb := H.all _ (List.mem_cons_self ..)
  refine ⟨H.bel, fun x hx => ?_, List.pairwise_cons.2 ⟨fun z hz _ k h1 h2 => ?_, (List.pairwise_cons.1 H.apart).2⟩⟩
  · rcases List.mem_cons.1 hx with rfl | hx
    · exact ⟨by simp [hs], .inr ⟨g, 1, cs, rfl, hb.1, hb.2, Nat.le_refl _, by simp [maxLen], by simp [hs], by rw [Nat.one_mul, List.take_of_length_le (by simp [hs])]⟩⟩
    · exact H.all x (List.mem_cons_of_mem _ hx)
  · exact (List.pairwise_cons.1 H.apart).1 z hz (.inl rfl) k (by simpa [It.area, Value.ownBlock] using h1) h2
/-- records that can grow are returned -/
def RPost (w0 : World) (I : List It) (rs : List Rc) (ed : Ending) (w' : World) : Prop :=
  ∃ A c, ed = .returned (.slice A rs.length c) ∧ rs.length ≤ c ∧ c ≤ maxLen ∧ St w0 w' (.ow 67 10 (.slice A rs.length c) rs.length (rcCells rs) :: I)
theorem RPost.mk {w0 w : World} {I : List It} {rs : List Rc} {A : Option Addr} {n c : Nat} (hn : rs.length = n) (h1 : n ≤ c) (h2 : c ≤ maxLen) (H : St w0 w (.ow 67 10 (.slice A n c) n (rcCells rs) :: I)) : RPost w0 I rs (.returned (.slice A n c)) w := by
  subst hn
  exact ⟨A, c, rfl, h1, h2, H⟩
set_option maxRecDepth 100000 in
set_option maxHeartbeats 8000000 in
theorem records_st {w0 w : World} {I : List It} (q : Int) (r be bf bd br : Int) (es : List Ev) (A : Option Addr) (n c : Nat) (hl : es.length = n) (hn : n ≤ 150) (hc : n ≤ c) (H : St w0 w I) [h : Has I (evIt A es)] :
    Calls Try.prog 17 #[.int .i64 q, .agg (bArr ⟨r, be, bf, bd, br, es⟩ A n c)] w (RPost w0 I (recsOf q ⟨r, be, bf, bd, br, es⟩)) := by
  unfold bArr
  dsimp only
  have HI := Lib.hid h
  have HL := Lib.hid hl
  have HF := Lib.hid (fun W A' n' c' (h0 : (recsOf q ⟨r, be, bf, bd, br, es⟩).length = n') (h1 : n' ≤ c') (h2 : c' ≤ maxLen) (h3 : St w0 W (.ow 67 10 (.slice A' n' c') n' (rcCells (recsOf q ⟨r, be, bf, bd, br, es⟩)) :: I)) => (RPost.mk h0 h1 h2 h3 : RPost w0 I (recsOf q ⟨r, be, bf, bd, br, es⟩) (.returned (.slice A' n' c')) W))
  have HRO := Lib.hid (show recsOf q ⟨r, be, bf, bd, br, es⟩ = (if r = 3 then histOf q be es ++ [⟨3, q, be, bd, Ev.zero⟩] else histOf q be es) from rfl)
  generalize RPost w0 I (recsOf q ⟨r, be, bf, bd, br, es⟩) = POST at *
  clear h hl
  go_enter Try.func17, Try.ntmps17
  go_upto_region 3 with (first | ((with_reducible refine here_boxAt 3 ?_); refine wpList_box_st H rfl _ _ rfl _ rfl ?_; clear H; intro gb wx H) | ((with_reducible refine here_buildSlice ?_); refine wpList_buildSlice1_st H rfl 61 _ rfl 67 Try.underlying61 _ rfl _ rec_info2 (by rfl) (by rfl) ?_; clear H; intro gs wx H) | (first | ((with_reducible refine here_load ?_); first | refine ldR H rfl _ _ rfl rfl (by kernel_rfl) ?_ | refine ldS H rfl _ _ rfl rfl (by rfl) ?_ | refine ldSG H (by rfl) _ _ rfl rfl (by rfl) ?_ | refine ldRG H (by rfl) _ _ rfl rfl (by kernel_rfl) ?_) | ((with_reducible refine here_store ?_); first | (refine stR H rfl _ _ _ rfl rfl rfl (by rfl) (by rfl) (by kernel_rfl) ?_; clear H; intro wx H) | (refine stS H rfl _ _ _ rfl rfl _ rfl (by rfl) (by rfl) (by rfl) ?_; clear H; intro wx H)) | ((with_reducible refine here_alloc ?_); first | (refine wpList_alloc_st H rfl 37 rfl _ q_zero ?_; clear H; intro gq wx H) | (refine wpList_alloc_st H rfl 48 rfl _ ans_zero ?_; clear H; intro ga wx H) | (refine wpList_alloc_st H rfl 44 rfl _ ev_zero ?_; clear H; intro ge wx H) | (refine wpList_alloc_st H rfl 58 rfl _ ber_zero ?_; clear H; intro gr wx H)) | ((with_reducible refine here_box ?_); refine wpList_box_st H rfl _ _ rfl _ rfl ?_; clear H; intro gb wx H)))
  replace H := H.ownB (s := 10) rfl
  have h := HI.out
  go_loopw [5, 6] (fun s5 s6 wr => ∃ (i : Nat) (A5 : Option Addr) (c5 : Nat), i ≤ n ∧ s6 = .int .i64 i ∧ s5 = .slice A5 (i + 1) c5 ∧ i + 1 ≤ c5 ∧ c5 ≤ maxLen ∧ St w0 wr (.ow 67 10 (.slice A5 (i + 1) c5) (i + 1) (rcCells (histOf q be (es.take i))) :: .bl gb 58 #[.int .i64 r, .int .i64 be, .int .i64 bf, .int .i64 bd, .int .i64 br, .slice A n c] :: I)) (fun _ s6 _ => n - (intOf s6).toNat)
  case atStart => exact ⟨0, _, 1, by omega, rfl, rfl, by omega, by simp only [maxLen]; omega, H⟩
  case round =>
    clear H
    obtain ⟨i, A5, c5, hi, rfl, rfl, hc5, hc5', H⟩ := hrel
    by_cases hlt : i < n
    · obtain ⟨b8, off, hA8, hb8, _⟩ := qevAt (H.get (evIt A es)) rfl (show i < es.length by rw [HL.out]; exact hlt)
      subst hA8
      have QA := Lib.hid (fun W (hW : Reads W W.heap.size 6 (some ⟨b8, off, none⟩) es.length (qevCells es)) => qevAt hW rfl (show i < es.length by rw [HL.out]; exact hlt))
      have HSN := Lib.hid (histOf_snoc q be es i (by rw [HL.out]; exact hlt))
      obtain ⟨e, he⟩ : ∃ e, es.getD i .zero0 = e := ⟨_, rfl⟩
      rw [he] at HSN QA
      obtain ⟨e0, e1, e2, e3, e4, e5⟩ := e
      have k6 : (0 : Int) ≤ (i : Int) := by omega
      have k7 : (i : Int) < (n : Int) := by omega
      have k8 : (n : Int) ≤ (c : Int) := by omega
      have k9 := decide_eq_true k7
      have w1 : IntKind.i64.wrap ((i : Int) + 1) = (i : Int) + 1 := IntWalk.i64_in _ (by omega)
      have HLT := Lib.hid hlt
      clear hb8 he hlt
      go_upto_region 5 with (first | ((with_reducible refine here_load ?_); first | refine ldR H rfl _ _ rfl rfl (by kernel_rfl) ?_ | refine ldS H rfl _ _ rfl rfl (by rfl) ?_ | refine ldSG H (by rfl) _ _ rfl rfl (by rfl) ?_ | refine ldRG H (by rfl) _ _ rfl rfl (by kernel_rfl) ?_) | ((with_reducible refine here_store ?_); first | (refine stR H rfl _ _ _ rfl rfl rfl (by rfl) (by rfl) (by kernel_rfl) ?_; clear H; intro wx H) | (refine stS H rfl _ _ _ rfl rfl _ rfl (by rfl) (by rfl) (by rfl) ?_; clear H; intro wx H)) | ((with_reducible refine here_alloc ?_); first | (refine wpList_alloc_st H rfl 37 rfl _ q_zero ?_; clear H; intro gq2 wx H) | (refine wpList_alloc_st H rfl 48 rfl _ ans_zero ?_; clear H; intro ga2 wx H) | (refine wpList_alloc_st H rfl 44 rfl _ ev_zero ?_; clear H; intro ge2 wx H) | (refine wpList_alloc_st H rfl 58 rfl _ ber_zero ?_; clear H; intro gr2 wx H)) | ((with_reducible refine here_box ?_); refine wpList_box_st H rfl _ _ rfl _ rfl ?_; clear H; intro gb2 wx H))
      (try simp only [Act.put])
      refine startS (H.subm (.bl gb 58 #[.int .i64 r, .int .i64 be, .int .i64 bf, .int .i64 bd, .int .i64 br, .slice (some ⟨b8, off, none⟩) n c] :: I)) (by kernel_rfl) (fun HS => ?_)
      replace H := H.drew
      refine takeMove (i := 0) rfl rfl _ (by rfl) (by kernel_rfl) (by kernel_rfl) (by kernel_rfl) (fun _ _ _ _ h => h) (by rfl) HS ?_
      (try simp only [Act.put, List.setIfInBounds_toArray, List.set_cons_zero, List.set_cons_succ])
      refine takeMove (i := 1) rfl rfl _ (by rfl) (by kernel_rfl) (by kernel_rfl) (by kernel_rfl) (fun _ _ _ _ h => h) (by rfl) HS ?_
      (try simp only [Act.put, List.setIfInBounds_toArray, List.set_cons_zero, List.set_cons_succ])
      refine takeV (i := 2) (v := ?_) rfl (by kernel_rfl) (by kernel_rfl) (by kernel_rfl) (fun _ _ _ h => h) (by rfl) ?_ HS ?_
      rotate_left
      · (intro W hW; go_simp; try with_reducible rfl)
      (try simp only [Act.put, List.setIfInBounds_toArray, List.set_cons_zero, List.set_cons_succ])
      refine take1_st (i := 3) 3 _ rfl rfl rfl sc_int _ (by rfl) (by kernel_rfl) (by kernel_rfl) (by kernel_rfl) (fun _ _ _ _ h => h) (by rfl) HS ?_
      (try simp only [Act.put, List.setIfInBounds_toArray, List.set_cons_zero, List.set_cons_succ])
      refine takeV (i := 4) (v := ?_) rfl (by kernel_rfl) (by kernel_rfl) (by kernel_rfl) (fun _ _ _ h => h) (by rfl) ?_ HS ?_
      rotate_left
      · (intro W hW; go_simp; try with_reducible rfl)
      (try simp only [Act.put, List.setIfInBounds_toArray, List.set_cons_zero, List.set_cons_succ])
      refine take1_st (i := 5) 23 _ rfl rfl rfl sc_Evs _ (by rfl) (by kernel_rfl) (by kernel_rfl) (by kernel_rfl) (fun _ _ _ _ h => h) (by rfl) HS ?_
      (try simp only [Act.put, List.setIfInBounds_toArray, List.set_cons_zero, List.set_cons_succ])
      refine takeMove (i := 6) rfl rfl _ (by rfl) (by kernel_rfl) (by kernel_rfl) (by kernel_rfl) (fun _ _ _ _ h => h) (by rfl) HS ?_
      (try simp only [Act.put, List.setIfInBounds_toArray, List.set_cons_zero, List.set_cons_succ])
      refine takeV (i := 7) (v := ?_) rfl (by kernel_rfl) (by kernel_rfl) (by kernel_rfl) (fun _ _ _ h => h) (by rfl) ?_ HS ?_
      rotate_left
      · (intro W hW; go_simp; try with_reducible rfl)
      (try simp only [Act.put, List.setIfInBounds_toArray, List.set_cons_zero, List.set_cons_succ])
      refine takeV (i := 8) (v := .agg #[.int .i64 e0, .int .i64 e1, .int .i64 e2, .int .i64 e3, .int .i64 e4, .int .i64 e5]) rfl (by kernel_rfl) (by kernel_rfl) (by kernel_rfl) (fun _ _ _ h => h) (by rfl) ?_ HS ?_
      · intro W hW
        obtain ⟨b9, off9, hA9, _, q0, q1, q2, q3, q4, q5⟩ := QA.out W (hW.get (evIt (some ⟨b8, off, none⟩) es))
        obtain ⟨rfl, rfl⟩ : b8 = b9 ∧ off = off9 := by cases hA9; exact ⟨rfl, rfl⟩
        dsimp only at q0 q1 q2 q3 q4 q5
        go_simp
        try with_reducible rfl
      (try simp only [Act.put, List.setIfInBounds_toArray, List.set_cons_zero, List.set_cons_succ])
      refine takeV (i := 9) (v := ?_) rfl (by kernel_rfl) (by kernel_rfl) (by kernel_rfl) (fun _ _ _ h => h) (by rfl) ?_ HS ?_
      rotate_left
      · (intro W hW; go_simp; try with_reducible rfl)
      (try simp only [Act.put, List.setIfInBounds_toArray, List.set_cons_zero, List.set_cons_succ])
      refine branchH [10] (by kernel_rfl) (by kernel_rfl) (AllStep.cons ?_ AllStep.nil)
      refine stepH_do (i := 10) rfl (by rfl) ?_
      refine wp_buildSlice1_st H 61 _ rfl 67 Try.underlying61 _ rfl _ rec_info2 (by rfl) (by rfl) ?_
      clear H
      intro gs wx H
      replace HS := HS.of H
      refine ⟨HS, ?_⟩
      (try simp only [Act.put, List.setIfInBounds_toArray, List.set_cons_zero, List.set_cons_succ])
      refine branchH [11] (by kernel_rfl) (by kernel_rfl) (AllStep.cons ?_ AllStep.nil)
      refine stepH_do (i := 11) rfl (by rfl) ?_
      refine wp_appendB_st (v := .slice A5 (i + 1) c5) H _ _ 61 rfl rfl rfl Try.underlying61 _ _ rec_info (by rfl) (by rfl) (by rfl) (by kernel_rfl) (by simp only [maxLen]; omega) (by omega) ?_
      clear H
      intro A8 c8 wx hc8 hc8' H
      replace H := (show St w0 wx (.ow 67 10 (.slice A8 (i + 1 + 1) c8) (i + 1 + 1) (rcCells (histOf q be (es.take (i + 1)))) :: .bl gb 58 #[.int .i64 r, .int .i64 be, .int .i64 bf, .int .i64 bd, .int .i64 br, .slice (some ⟨b8, off, none⟩) n c] :: I) from by rw [← HSN.out, ← rcCells_snoc]; exact H.tail)
      replace HS := HS.of H
      refine ⟨HS, ?_⟩
      (try simp only [Act.put, List.setIfInBounds_toArray, List.set_cons_zero, List.set_cons_succ])
      refine takeAssign (i := 12) rfl rfl _ (by rfl) (by kernel_rfl) (by kernel_rfl) (by kernel_rfl) (fun _ _ _ _ h => h) (by rfl) HS ?_
      (try simp only [Act.put, List.setIfInBounds_toArray, List.set_cons_zero, List.set_cons_succ])
      refine doneH (by kernel_rfl) ?_
      go_wp2_with (first | ((with_reducible refine here_load ?_); first | refine ldR H rfl _ _ rfl rfl (by kernel_rfl) ?_ | refine ldS H rfl _ _ rfl rfl (by rfl) ?_ | refine ldSG H (by rfl) _ _ rfl rfl (by rfl) ?_ | refine ldRG H (by rfl) _ _ rfl rfl (by kernel_rfl) ?_) | ((with_reducible refine here_store ?_); first | (refine stR H rfl _ _ _ rfl rfl rfl (by rfl) (by rfl) (by kernel_rfl) ?_; clear H; intro wx H) | (refine stS H rfl _ _ _ rfl rfl _ rfl (by rfl) (by rfl) (by rfl) ?_; clear H; intro wx H)) | ((with_reducible refine here_alloc ?_); first | (refine wpList_alloc_st H rfl 37 rfl _ q_zero ?_; clear H; intro gq4 wx H) | (refine wpList_alloc_st H rfl 48 rfl _ ans_zero ?_; clear H; intro ga4 wx H) | (refine wpList_alloc_st H rfl 44 rfl _ ev_zero ?_; clear H; intro ge4 wx H) | (refine wpList_alloc_st H rfl 58 rfl _ ber_zero ?_; clear H; intro gr4 wx H)) | ((with_reducible refine here_box ?_); refine wpList_box_st H rfl _ _ rfl _ rfl ?_; clear H; intro gb4 wx H))
      go_roundw
      case rel => exact ⟨i + 1, A8, c8, by have := HLT.out; omega, by go_num, rfl, hc8, hc8', H⟩
      case measure => have := HLT.out; simp [intOf] <;> omega
    · obtain rfl : i = n := by omega
      have hlt2 : ¬ (i : Int) < (i : Int) := by omega
      have k9 := decide_eq_false hlt2
      have HTA := Lib.hid (show es.take i = es from List.take_of_length_le (Nat.le_of_eq HL.out))
      rw [HTA.out] at H
      clear hlt hi
      by_cases hr : r = 3
      · have HR3 := Lib.hid (show recsOf q ⟨r, be, bf, bd, br, es⟩ = histOf q be es ++ [⟨3, q, be, bd, Ev.zero⟩] from by rw [HRO.out, if_pos hr])
        have r31 : ((r : Int) == 3) = true := by simp [hr]
        have r32 : decide ((r : Int) = 3) = true := decide_eq_true hr
        clear hr
        go_wp2_with (first | ((with_reducible refine here_buildSlice ?_); refine wpList_buildSlice1_st H rfl 61 _ rfl 67 Try.underlying61 _ rfl _ rec_info2 (by rfl) (by rfl) ?_; clear H; intro gs wx H) | ((with_reducible refine here_call ?_); refine wpList_appendB_st (v := .slice A5 (i + 1) c5) H rfl _ _ 61 rfl rfl rfl Try.underlying61 _ _ rec_info (by rfl) (by rfl) (by rfl) (by kernel_rfl) (by simp only [maxLen]; omega) (by omega) ?_; clear H; intro A8 c8 wx hc8 hc8' H) | (first | ((with_reducible refine here_load ?_); first | refine ldR H rfl _ _ rfl rfl (by kernel_rfl) ?_ | refine ldS H rfl _ _ rfl rfl (by rfl) ?_ | refine ldSG H (by rfl) _ _ rfl rfl (by rfl) ?_ | refine ldRG H (by rfl) _ _ rfl rfl (by kernel_rfl) ?_) | ((with_reducible refine here_store ?_); first | (refine stR H rfl _ _ _ rfl rfl rfl (by rfl) (by rfl) (by kernel_rfl) ?_; clear H; intro wx H) | (refine stS H rfl _ _ _ rfl rfl _ rfl (by rfl) (by rfl) (by rfl) ?_; clear H; intro wx H)) | ((with_reducible refine here_alloc ?_); first | (refine wpList_alloc_st H rfl 37 rfl _ q_zero ?_; clear H; intro gq3 wx H) | (refine wpList_alloc_st H rfl 48 rfl _ ans_zero ?_; clear H; intro ga3 wx H) | (refine wpList_alloc_st H rfl 44 rfl _ ev_zero ?_; clear H; intro ge3 wx H) | (refine wpList_alloc_st H rfl 58 rfl _ ber_zero ?_; clear H; intro gr3 wx H)) | ((with_reducible refine here_box ?_); refine wpList_box_st H rfl _ _ rfl _ rfl ?_; clear H; intro gb3 wx H)))
        refine HF.out _ _ _ _ (by rw [HR3.out, List.length_append, histOf_len, HL.out]; rfl) hc8 hc8' ?_
        rw [HR3.out, ← rcCells_snoc]
        have H8 : St w0 wx (.ow 67 10 (.slice A8 (i + 1 + 1) c8) (i + 1 + 1) (rcCells (histOf q be es) ++ (Rc.cells ⟨3, q, be, bd, Ev.zero⟩).toList) :: .bl gb 58 #[.int .i64 r, .int .i64 be, .int .i64 bf, .int .i64 bd, .int .i64 br, .slice A i c] :: I) := H.tail
        exact H8.subm _
      · have HR3 := Lib.hid (show recsOf q ⟨r, be, bf, bd, br, es⟩ = histOf q be es from by rw [HRO.out, if_neg hr])
        have r31 : ((r : Int) == 3) = false := beq_eq_false_iff_ne.2 hr
        have r32 : decide ((r : Int) = 3) = false := decide_eq_false hr
        clear hr
        go_wp2_with (first | (first | ((with_reducible refine here_load ?_); first | refine ldR H rfl _ _ rfl rfl (by kernel_rfl) ?_ | refine ldS H rfl _ _ rfl rfl (by rfl) ?_ | refine ldSG H (by rfl) _ _ rfl rfl (by rfl) ?_ | refine ldRG H (by rfl) _ _ rfl rfl (by kernel_rfl) ?_) | ((with_reducible refine here_store ?_); first | (refine stR H rfl _ _ _ rfl rfl rfl (by rfl) (by rfl) (by kernel_rfl) ?_; clear H; intro wx H) | (refine stS H rfl _ _ _ rfl rfl _ rfl (by rfl) (by rfl) (by rfl) ?_; clear H; intro wx H)) | ((with_reducible refine here_alloc ?_); first | (refine wpList_alloc_st H rfl 37 rfl _ q_zero ?_; clear H; intro gq3 wx H) | (refine wpList_alloc_st H rfl 48 rfl _ ans_zero ?_; clear H; intro ga3 wx H) | (refine wpList_alloc_st H rfl 44 rfl _ ev_zero ?_; clear H; intro ge3 wx H) | (refine wpList_alloc_st H rfl 58 rfl _ ber_zero ?_; clear H; intro gr3 wx H)) | ((with_reducible refine here_box ?_); refine wpList_box_st H rfl _ _ rfl _ rfl ?_; clear H; intro gb3 wx H)))
        refine HF.out _ _ _ _ (by rw [HR3.out, histOf_len, HL.out]) hc5 hc5' ?_
        rw [HR3.out]
        exact H.subm _


end Go.Proofs.Ytjmncbfmjeeneaa

namespace Go.Proofs.Ytjmncbfmjeeneaa
open Go.RowKit

set_option linter.unusedVariables false
/-- four berths in one block -/
def outB (B : Nat → BM) (A : Nat → Option Addr) (c : Nat → Nat) : Array Value :=
  #[.int .i64 (B 0).role, .int .i64 (B 0).ep, .int .i64 (B 0).frm, .int .i64 (B 0).dst, .int .i64 (B 0).rounds, .slice (A 0) (B 0).es.length (c 0),
    .int .i64 (B 1).role, .int .i64 (B 1).ep, .int .i64 (B 1).frm, .int .i64 (B 1).dst, .int .i64 (B 1).rounds, .slice (A 1) (B 1).es.length (c 1),
    .int .i64 (B 2).role, .int .i64 (B 2).ep, .int .i64 (B 2).frm, .int .i64 (B 2).dst, .int .i64 (B 2).rounds, .slice (A 2) (B 2).es.length (c 2),
    .int .i64 (B 3).role, .int .i64 (B 3).ep, .int .i64 (B 3).frm, .int .i64 (B 3).dst, .int .i64 (B 3).rounds, .slice (A 3) (B 3).es.length (c 3)]
def outI (B : Nat → BM) (A : Nat → Option Addr) : List It := [evIt (A 0) (B 0).es, evIt (A 1) (B 1).es, evIt (A 2) (B 2).es, evIt (A 3) (B 3).es]
def upd {α : Type} (f : Nat → α) (q : Nat) (x : α) (j : Nat) : α := if j = q then x else f j
theorem outB_part (B : Nat → BM) (A : Nat → Option Addr) (c : Nat → Nat) (q : Nat) (hq : q < 4) : (outB B A c).extract (q * 6) (q * 6 + 6) = bArr (B q) (A q) (B q).es.length (c q) := by
  match q, hq with
  | 0, _ => rfl
  | 1, _ => rfl
  | 2, _ => rfl
  | 3, _ => rfl
set_option maxHeartbeats 4000000 in
theorem outB_put (B : Nat → BM) (A : Nat → Option Addr) (c : Nat → Nat) (q : Nat) (hq : q < 4) (b : BM) (A' : Option Addr) (c' : Nat) : spl (outB B A c) (q * 6) (bArr b A' b.es.length c').toList = outB (upd B q b) (upd A q A') (upd c q c') := by
  match q, hq with
  | 0, _ => simp [outB, bArr, spl, upd]
  | 1, _ => simp [outB, bArr, spl, upd]
  | 2, _ => simp [outB, bArr, spl, upd]
  | 3, _ => simp [outB, bArr, spl, upd]
theorem bArr_one (b : BM) (A : Option Addr) (n c : Nat) : (bArr b A n c).all (·.oneCell') = true := by kernel_rfl
theorem outB_size (B : Nat → BM) (A : Nat → Option Addr) (c : Nat → Nat) : (outB B A c).size = 24 := rfl
theorem outI_has (B : Nat → BM) (A : Nat → Option Addr) (q : Nat) (hq : q < 4) : evIt (A q) (B q).es ∈ outI B A := by
  match q, hq with
  | 0, _ => exact List.mem_cons_self ..
  | 1, _ => exact List.mem_cons_of_mem _ (List.mem_cons_self ..)
  | 2, _ => exact List.mem_cons_of_mem _ (List.mem_cons_of_mem _ (List.mem_cons_self ..))
  | 3, _ => exact List.mem_cons_of_mem _ (List.mem_cons_of_mem _ (List.mem_cons_of_mem _ (List.mem_cons_self ..)))
theorem outI_upd {w0 w : World} {I : List It} {x : It} (B : Nat → BM) (A : Nat → Option Addr) (q : Nat) (hq : q < 4) (b : BM) (A' : Option Addr) (H : St w0 w (x :: evIt A' b.es :: (outI B A ++ I))) : St w0 w (x :: (outI (upd B q b) (upd A q A') ++ I)) := by
  match q, hq with
  | 0, _ => exact (show St w0 w (x :: evIt A' b.es :: evIt (A 0) (B 0).es :: evIt (A 1) (B 1).es :: evIt (A 2) (B 2).es :: evIt (A 3) (B 3).es :: I) from H).subm (x :: evIt A' b.es :: evIt (A 1) (B 1).es :: evIt (A 2) (B 2).es :: evIt (A 3) (B 3).es :: I)
  | 1, _ => exact (show St w0 w (x :: evIt A' b.es :: evIt (A 0) (B 0).es :: evIt (A 1) (B 1).es :: evIt (A 2) (B 2).es :: evIt (A 3) (B 3).es :: I) from H).subm (x :: evIt (A 0) (B 0).es :: evIt A' b.es :: evIt (A 2) (B 2).es :: evIt (A 3) (B 3).es :: I)
  | 2, _ => exact (show St w0 w (x :: evIt A' b.es :: evIt (A 0) (B 0).es :: evIt (A 1) (B 1).es :: evIt (A 2) (B 2).es :: evIt (A 3) (B 3).es :: I) from H).subm (x :: evIt (A 0) (B 0).es :: evIt (A 1) (B 1).es :: evIt A' b.es :: evIt (A 3) (B 3).es :: I)
  | 3, _ => exact (show St w0 w (x :: evIt A' b.es :: evIt (A 0) (B 0).es :: evIt (A 1) (B 1).es :: evIt (A 2) (B 2).es :: evIt (A 3) (B 3).es :: I) from H).subm (x :: evIt (A 0) (B 0).es :: evIt (A 1) (B 1).es :: evIt (A 2) (B 2).es :: evIt A' b.es :: I)
/-- a record's row -/
def rcRow (r : Rc) : List Int := [r.kind, r.queue, r.epoch, r.peer, r.ev.kind, r.ev.prod, r.ev.id, r.ev.body, r.ev.hep, r.ev.hno]
theorem rcCells_eq (rs : List Rc) : rcCells rs = rowCells (rs.map rcRow) := by
  unfold rcCells rowCells
  rw [List.flatMap_map]
  rfl
def rc0 : Rc := ⟨0, 0, 0, 0, Ev.zero⟩
def rcIt (A : Option Addr) (rs : List Rc) : It := .rd 10 A rs.length (rcCells rs)
theorem rcAt {w : World} {b0 n i : Nat} {A : Option Addr} {rs : List Rc} (hr : Reads w b0 10 A n (rcCells rs)) (hl : rs.length = n) (hi : i < n) :
    ∃ b off, A = some ⟨b, off, none⟩ ∧ b < b0 ∧ ∀ j z, (rcRow (rs.getD i rc0))[j]? = some z → w.cell? ⟨b, off + i * 10 + j, none⟩ = some (.int .i64 z) := by
  have hr1 : rs[i]? = some (rs.getD i rc0) := by rw [List.getElem?_eq_getElem (show i < rs.length by omega)]; simp [List.getD, List.getElem?_eq_getElem (show i < rs.length by omega)]
  exact rowAt (rcCells_eq rs ▸ hr) (by simpa using hl) (fun r hr => by obtain ⟨x, _, rfl⟩ := List.mem_map.1 hr; rfl) (by omega) hi (r := rcRow (rs.getD i rc0)) (by rw [List.getElem?_map, hr1]; rfl)
section
variable {P : Program} {ops : Array Oper} {rest : List Oper} {o : Oper} {a : Act} {w0 w : World} {I : List It} {Q : Exit → Act → World → Prop}
/-- make of n rows -/
theorem wpList_make_st (H : St w0 w I) (hgd : o.guard = none) (ty e : TypeId) (l c : Operand) (ho : o.op = .makeSlice ty l c) (n : Nat) (hl : a.eval l = .int .i64 (n : Int)) (hc : a.eval c = .int .i64 (n : Int)) (ht : P.underlying ty = some (.slice e))
    (z : Value) (s b : Nat) (hi : (P.info? e).map (fun i => (i.zero, i.size, i.bytes)) = some (some z, s, b)) (hb : b * n ≤ 281474976710656) (hn : n ≤ maxLen) (cs : Array Value) (hcs : madeCells z.cells (n * s) = cs)
    (h : ∀ g w', St w0 w' (.bl g e cs :: I) → wpList P ops Q rest (a.put o.dst (.slice (some ⟨g, 0, none⟩) n n)) w') : wpList P ops Q (o :: rest) a w :=
  wpList_plain hgd fun _ hK => by
    obtain ⟨i, hii, hzz⟩ := Option.map_eq_some_iff.1 hi
    simp only [Prod.mk.injEq] at hzz
    obtain ⟨hz, hs, hbb⟩ := hzz
    have hb' : (i.bytes : Int) * (n : Int) ≤ 281474976710656 := by
      have h : ((i.bytes * n : Nat) : Int) ≤ 281474976710656 := by rw [hbb]; omega
      rwa [Int.natCast_mul] at h
    have hr := run_make (P := P) w ty e i z ht hii hz .i64 .i64 n n (by omega) (Int.le_refl _) hb' (by simp only [maxLen] at hn; omega)
    simp only [Int.toNat_natCast, hs, hcs] at hr
    unfold Oper.wp execOp
    simp only [ho, hl, hc, Sem.run_bind, hr, Result.andThen_ok, Sem.run_pure]
    exact hK _ _ (h _ _ (H.box e cs))
end
instance scTy_bers : ScTy 63 := ⟨by kernel_rfl, by kernel_rfl⟩
theorem ber_info3 : (Try.prog.info? 58).map (fun i => (i.zero, i.size, i.bytes)) = some (some (.agg #[.int .i64 0, .int .i64 0, .int .i64 0, .int .i64 0, .int .i64 0, .slice none 0 0]), 6, 64) := by kernel_rfl
theorem made4 : madeCells (Value.agg #[.int .i64 0, .int .i64 0, .int .i64 0, .int .i64 0, .int .i64 0, .slice none 0 0]).cells (4 * 6) = outB (fun _ => BM.zero) (fun _ => none) (fun _ => 0) := by kernel_rfl
theorem rec_zero : (Try.prog.info? 67).bind (·.zero) = some (.agg #[.int .i64 0, .int .i64 0, .int .i64 0, .int .i64 0, .int .i64 0, .int .i64 0, .int .i64 0, .int .i64 0, .int .i64 0, .int .i64 0]) := by kernel_rfl
theorem Has.app {x : It} {I : List It} (J : List It) (h : Has I x) : Has (J ++ I) x := ⟨List.mem_append_right _ h.mem⟩
/-- a record does this to its berth -/
def Fits (b : BM) (r : Rc) (R : BM × Int) : Prop :=
  Rc.check r = 0 ∧ ∀ (w0 w : World) (I : List It) (A : Option Addr) (c : Nat), b.es.length ≤ c → St w0 w I → Has I (evIt A b.es) → Calls Try.prog 43 #[.agg (bArr b A b.es.length c), .agg r.cells] w (BPost w0 I R)
/-- the i-th record of a tape is applied -/
def StepAt (rs : List Rc) (f : Nat → Nat → BM) (i : Nat) : Prop :=
  ∃ q : Nat, q < 4 ∧ (rs.getD i rc0).queue = (q : Int) ∧ Fits (f i q) (rs.getD i rc0) (f (i + 1) q, 0) ∧ ∀ j, j ≠ q → f (i + 1) j = f i j
/-- All's answer: N records fit -/
def APost (w0 : World) (I : List It) (B : Nat → BM) (n N : Nat) (code : Int) (ed : Ending) (w' : World) : Prop :=
  if N = n then ∃ go A c, ed = .returned (.tuple #[.slice (some ⟨go, 0, none⟩) 4 4, .int .i64 0, .int .i64 0]) ∧ (∀ j, j < 4 → (B j).es.length ≤ c j) ∧ St w0 w' (.bl go 58 (outB B A c) :: (outI B A ++ I))
  else ed = .returned (.tuple #[.slice none 0 0, .int .i64 N, .int .i64 code]) ∧ St w0 w' I
theorem outI_drop {w0 w : World} {I : List It} (B : Nat → BM) (A : Nat → Option Addr) (H : St w0 w (outI B A ++ I)) : St w0 w I :=
  (show St w0 w (_ :: _ :: _ :: _ :: I) from H).tail.tail.tail.tail

end Go.Proofs.Ytjmncbfmjeeneaa

namespace Go.Proofs.Ytjmncbfmjeeneaa
open Go.RowKit

set_option linter.unusedVariables false
set_option maxRecDepth 100000 in
set_option maxHeartbeats 8000000 in
theorem all_st {w0 w : World} {I : List It} (rs : List Rc) (A : Option Addr) (n c N : Nat) (f : Nat → Nat → BM) (code : Int) (hl : rs.length = n) (hn : n ≤ 10000) (hc : n ≤ c) (hN : N ≤ n) (hf0 : ∀ j, f 0 j = BM.zero) (hstep : ∀ i, i < N → StepAt rs f i) (hbad : N < n → ∃ (q : Nat) (R : BM), q < 4 ∧ (rs.getD N rc0).queue = (q : Int) ∧ code ≠ 0 ∧ Fits (f N q) (rs.getD N rc0) (R, code)) (H : St w0 w I) [h : Has I (rcIt A rs)] :
    Calls Try.prog 18 #[.slice A n c] w (APost w0 I (f N) n N code) := by
  have HI := Lib.hid h
  have HL := Lib.hid hl
  have HST := Lib.hid hstep
  have HBD := Lib.hid hbad
  have HF0 := Lib.hid hf0
  have HFok := Lib.hid (fun W go A c (hN : N = n) (h1 : ∀ j, j < 4 → (f N j).es.length ≤ c j) (h2 : St w0 W (.bl go 58 (outB (f N) A c) :: (outI (f N) A ++ I))) => (show APost w0 I (f N) n N code (.returned (.tuple #[.slice (some ⟨go, 0, none⟩) 4 4, .int .i64 0, .int .i64 0])) W from by
    unfold APost
    rw [if_pos hN]
    exact ⟨go, A, c, rfl, h1, h2⟩))
  have HFno := Lib.hid (fun W (hN : N ≠ n) (h2 : St w0 W I) => (show APost w0 I (f N) n N code (.returned (.tuple #[.slice none 0 0, .int .i64 N, .int .i64 code])) W from by
    unfold APost
    rw [if_neg hN]
    exact ⟨rfl, h2⟩))
  generalize APost w0 I (f N) n N code = POST at *
  clear h hl hstep hbad hf0
  go_enter Try.func18, Try.ntmps18
  go_upto_region 3 with (first | (at_make; (refine wpList_make_st H rfl 63 58 _ _ rfl 4 rfl rfl Try.underlying63 _ 6 64 ber_info3 (by omega) (by simp only [maxLen]; omega) _ made4 ?_); clear H; intro go wx H) | (first | ((with_reducible refine here_load ?_); first | refine ldR H rfl _ _ rfl rfl (by kernel_rfl) ?_ | refine ldS H rfl _ _ rfl rfl (by rfl) ?_ | refine ldSG H (by rfl) _ _ rfl rfl (by rfl) ?_ | refine ldRG H (by rfl) _ _ rfl rfl (by kernel_rfl) ?_) | ((with_reducible refine here_store ?_); first | (refine stR H rfl _ _ _ rfl rfl rfl (by rfl) (by rfl) (by kernel_rfl) ?_; clear H; intro wx H) | (refine stS H rfl _ _ _ rfl rfl _ rfl (by rfl) (by rfl) (by rfl) ?_; clear H; intro wx H)) | ((with_reducible refine here_alloc ?_); first | (refine wpList_alloc_st H rfl 37 rfl _ q_zero ?_; clear H; intro gq wx H) | (refine wpList_alloc_st H rfl 48 rfl _ ans_zero ?_; clear H; intro ga wx H) | (refine wpList_alloc_st H rfl 44 rfl _ ev_zero ?_; clear H; intro ge wx H) | (refine wpList_alloc_st H rfl 58 rfl _ ber_zero ?_; clear H; intro gr wx H)) | ((with_reducible refine here_box ?_); refine wpList_box_st H rfl _ _ rfl _ rfl ?_; clear H; intro gb wx H)))

  go_loopw [14] (fun s14 wr => ∃ (i : Nat) (A : Nat → Option Addr) (c : Nat → Nat), i ≤ N ∧ s14 = .int .i64 i ∧ (∀ j, j < 4 → (f i j).es.length ≤ c j) ∧ St w0 wr (.bl go 58 (outB (f i) A c) :: (outI (f i) A ++ I))) (fun s14 _ => n - (intOf s14).toNat)
  case atStart =>
    have hz : f 0 = fun _ => BM.zero := funext HF0.out
    refine ⟨0, fun _ => none, fun _ => 0, by omega, rfl, fun j _ => by rw [hz]; exact Nat.le_refl _, ?_⟩
    rw [hz]
    have H1 := (((H.old (s := 6) (n := 0) (A := none) (xs := []) Reads.none_).old (s := 6) (n := 0) (A := none) (xs := []) Reads.none_).old (s := 6) (n := 0) (A := none) (xs := []) Reads.none_).old (s := 6) (n := 0) (A := none) (xs := []) Reads.none_
    exact H1.subm (.bl go 58 (outB (fun _ => BM.zero) (fun _ => none) (fun _ => 0)) :: .rd 6 none 0 [] :: .rd 6 none 0 [] :: .rd 6 none 0 [] :: .rd 6 none 0 [] :: I)
  case round =>
    clear H
    obtain ⟨i, A5, c5, hi, rfl, hc5, H⟩ := hrel
    by_cases hlt : i < n
    · have hstp : ∃ (q : Nat) (R : BM) (cd : Int), q < 4 ∧ (rs.getD i rc0).queue = (q : Int) ∧ Fits (f i q) (rs.getD i rc0) (R, cd) ∧ ((cd = 0 ∧ i < N ∧ f (i + 1) q = R ∧ ∀ j, j ≠ q → f (i + 1) j = f i j) ∨ (cd = code ∧ code ≠ 0 ∧ i = N)) := by
        by_cases hiN : i < N
        · obtain ⟨q, h1, h2, h3, h4⟩ := HST.out i hiN
          exact ⟨q, _, 0, h1, h2, h3, .inl ⟨rfl, hiN, rfl, h4⟩⟩
        · obtain rfl : i = N := by omega
          obtain ⟨q, R, h1, h2, h3, h4⟩ := HBD.out hlt
          exact ⟨q, R, code, h1, h2, h4, .inr ⟨rfl, h3, rfl⟩⟩
      obtain ⟨q, R, cd, hq, hqu, ⟨hck, hap⟩, hcase⟩ := hstp
      have HCS := Lib.hid hcase
      have HC5 := Lib.hid hc5
      have hcq := HC5.out q hq
      have HQ := Lib.hid hq
      obtain ⟨J, hJ⟩ : ∃ J, J = outI (f i) A5 ++ I := ⟨_, rfl⟩
      have HJ := Lib.hid hJ
      have HJq := Lib.hid (show Has J (evIt (A5 q) (f i q).es) from ⟨by rw [hJ]; exact List.mem_append_left _ (outI_has _ _ q hq)⟩)
      have HJr := Lib.hid (show Has J (rcIt A rs) from by rw [hJ]; exact Has.app _ HI.out)
      have h := HJr.out
      rw [← hJ] at H
      clear hJ hc5 hcase
      obtain ⟨b8, off, hA8, hb8, hcell⟩ := rcAt (H.get (rcIt A rs)) rfl (show i < rs.length by rw [HL.out]; exact hlt)
      subst hA8
      obtain ⟨r, hr⟩ : ∃ r, rs.getD i rc0 = r := ⟨_, rfl⟩
      rw [hr] at hqu hck hap hcell
      obtain ⟨k, qu, ep, pe, ⟨e0, e1, e2, e3, e4, e5⟩⟩ := r
      dsimp only at hqu
      subst hqu
      have q0 : wr.cell? ⟨b8, off + i * 10, none⟩ = some (.int .i64 k) := hcell 0 _ rfl
      have q1 := hcell 1 _ rfl
      have q2 := hcell 2 _ rfl
      have q3 := hcell 3 _ rfl
      have q4 := hcell 4 _ rfl
      have q5 := hcell 5 _ rfl
      have q6 := hcell 6 _ rfl
      have q7 := hcell 7 _ rfl
      have q8 := hcell 8 _ rfl
      have q9 := hcell 9 _ rfl
      have CKR := Lib.hid (fun W => ((recCheck_any k q ep pe e0 e1 e2 e3 e4 e5 W).mono (fun ed w' h => (⟨by rw [h.1, hck], h.2⟩ : ed = .returned (.int .i64 0) ∧ Below W.heap.size W w'))))
      have CAP := Lib.hid (fun W K (H : St w0 W K) hk => hap w0 W K (A5 q) (c5 q) hcq H hk)
      unfold Rc.cells at CAP
      dsimp only at CAP
      have kq0 : (0 : Int) ≤ (q : Int) := by omega
      have kq4 : (q : Int) < 4 := by omega
      have k6 : (0 : Int) ≤ (i : Int) := by omega
      have k7 : (i : Int) < (n : Int) := by omega
      have k8 : (n : Int) ≤ (c : Int) := by omega
      have k9 := decide_eq_true k7
      have w1 : IntKind.i64.wrap ((i : Int) + 1) = (i : Int) + 1 := IntWalk.i64_in _ (by omega)
      have HLT := Lib.hid hlt
      have HIN := Lib.hid hi
      clear hb8 hr hlt hi hcell hck hap hcq
      go_upto_region 8 with (first | (go_at_call 42; refine (CKR.out _).mono ?_; rintro ed w9 ⟨rfl, hb9⟩; replace H := H.below hb9; clear hb9) | ((with_reducible refine here_alloc ?_); refine wpList_alloc_st H rfl 67 rfl _ rec_zero ?_; clear H; intro g7 wx H) | (first | ((with_reducible refine here_load ?_); first | refine ldR H rfl _ _ rfl rfl (by kernel_rfl) ?_ | refine ldS H rfl _ _ rfl rfl (by rfl) ?_ | refine ldSG H (by rfl) _ _ rfl rfl (by rfl) ?_ | refine ldRG H (by rfl) _ _ rfl rfl (by kernel_rfl) ?_) | ((with_reducible refine here_store ?_); first | (refine stR H rfl _ _ _ rfl rfl rfl (by rfl) (by rfl) (by kernel_rfl) ?_; clear H; intro wx H) | (refine stS H rfl _ _ _ rfl rfl _ rfl (by rfl) (by rfl) (by rfl) ?_; clear H; intro wx H)) | ((with_reducible refine here_alloc ?_); first | (refine wpList_alloc_st H rfl 37 rfl _ q_zero ?_; clear H; intro gq2 wx H) | (refine wpList_alloc_st H rfl 48 rfl _ ans_zero ?_; clear H; intro ga2 wx H) | (refine wpList_alloc_st H rfl 44 rfl _ ev_zero ?_; clear H; intro ge2 wx H) | (refine wpList_alloc_st H rfl 58 rfl _ ber_zero ?_; clear H; intro gr2 wx H)) | ((with_reducible refine here_box ?_); refine wpList_box_st H rfl _ _ rfl _ rfl ?_; clear H; intro gb2 wx H)))
      (try simp only [Act.put])
      go_cut [9, 10, 14] (fun s9 s10 s14 wx => ∃ g9 A9 c9, s9 = .pointer (some ⟨g9, 0, none⟩) ∧ s10 = .int .i64 cd ∧ s14 = .int .i64 i ∧ R.es.length ≤ c9 ∧ St w0 wx (.bl g9 58 (bArr R A9 R.es.length c9) :: evIt A9 R.es :: .bl g7 67 #[.int .i64 k, .int .i64 q, .int .i64 ep, .int .i64 pe, .int .i64 e0, .int .i64 e1, .int .i64 e2, .int .i64 e3, .int .i64 e4, .int .i64 e5] :: .bl go 58 (outB (f i) A5 c5) :: J))
      case first =>
        refine startS (H.subm (.bl g7 67 #[.int .i64 k, .int .i64 q, .int .i64 ep, .int .i64 pe, .int .i64 e0, .int .i64 e1, .int .i64 e2, .int .i64 e3, .int .i64 e4, .int .i64 e5] :: .bl go 58 (outB (f i) A5 c5) :: J)) (by kernel_rfl) (fun HS => ?_)
        replace H := H.drew
        refine takeMove (i := 0) rfl rfl _ (by rfl) (by kernel_rfl) (by kernel_rfl) (by kernel_rfl) (fun _ _ _ _ h => h) (by rfl) HS ?_
        (try simp only [Act.put, List.setIfInBounds_toArray, List.set_cons_zero, List.set_cons_succ])
        refine takeV (i := 1) (v := ?_) rfl (by kernel_rfl) (by kernel_rfl) (by kernel_rfl) (fun _ _ _ h => h) (by rfl) ?_ HS ?_
        rotate_left
        · (intro W hW; go_simp; try with_reducible rfl)
        (try simp only [Act.put, List.setIfInBounds_toArray, List.set_cons_zero, List.set_cons_succ])
        refine take1_st (i := 2) 3 _ rfl rfl rfl sc_int _ (by rfl) (by kernel_rfl) (by kernel_rfl) (by kernel_rfl) (fun _ _ _ _ h => h) (by rfl) HS ?_
        (try simp only [Act.put, List.setIfInBounds_toArray, List.set_cons_zero, List.set_cons_succ])
        refine takeV (i := 3) (v := ?_) rfl (by kernel_rfl) (by kernel_rfl) (by kernel_rfl) (fun _ _ _ h => h) (by rfl) ?_ HS ?_
        rotate_left
        · (intro W hW; go_simp; try with_reducible rfl)
        (try simp only [Act.put, List.setIfInBounds_toArray, List.set_cons_zero, List.set_cons_succ])
        refine takePart_st (i := 4) (p := q * 6) 58 _ rfl rfl rfl row_Berth (by kernel_rfl) (Nat.ble_eq_true_of_le (show q * 6 + 6 ≤ 24 from by have := HQ.out; omega)) _ (outB_part (f i) A5 c5 q HQ.out) (by kernel_rfl) (by kernel_rfl) (by kernel_rfl) (fun _ _ _ _ h => h) (by rfl) HS ?_
        (try simp only [Act.put, List.setIfInBounds_toArray, List.set_cons_zero, List.set_cons_succ])
        refine takeRow_st (i := 5) 67 _ rfl rfl rfl row_Record (by kernel_rfl) (by kernel_rfl) (by kernel_rfl) (by kernel_rfl) (fun _ _ _ _ h => h) (by rfl) HS ?_
        (try simp only [Act.put, List.setIfInBounds_toArray, List.set_cons_zero, List.set_cons_succ])
        refine branchH [6, 10] (by kernel_rfl) (by kernel_rfl) (AllStep.cons ?_ (AllStep.cons ?_ AllStep.nil))
        · refine stepH_do (i := 6) rfl (by rfl) ?_
          have h := HJq.out
          refine wp_call_st rfl Try.func43 (by kernel_rfl) (by kernel_rfl) [.agg (bArr (f i q) (A5 q) (f i q).es.length (c5 q)), .agg #[.int .i64 k, .int .i64 q, .int .i64 ep, .int .i64 pe, .int .i64 e0, .int .i64 e1, .int .i64 e2, .int .i64 e3, .int .i64 e4, .int .i64 e5]] rfl ((CAP.out _ _ H inferInstance).mono ?_)
          clear H h
          rintro ed wy ⟨A9, c9, rfl, hc9, H⟩
          replace HS := HS.of H
          refine ⟨_, rfl, HS, ?_⟩
          (try simp only [Act.put, List.setIfInBounds_toArray, List.set_cons_zero, List.set_cons_succ])
          refine takeMove (i := 7) rfl rfl _ (by rfl) (by kernel_rfl) (by kernel_rfl) (by kernel_rfl) (fun _ _ _ _ h => h) (by rfl) HS ?_
          (try simp only [Act.put, List.setIfInBounds_toArray, List.set_cons_zero, List.set_cons_succ])
          refine takeExtract (i := 8) rfl rfl _ _ (by rfl) (by rfl) (by kernel_rfl) (by kernel_rfl) (by kernel_rfl) (fun _ _ _ _ h => h) (by rfl) HS ?_
          (try simp only [Act.put, List.setIfInBounds_toArray, List.set_cons_zero, List.set_cons_succ])
          refine takeExtract (i := 9) rfl rfl _ _ (by rfl) (by rfl) (by kernel_rfl) (by kernel_rfl) (by kernel_rfl) (fun _ _ _ _ h => h) (by rfl) HS ?_
          (try simp only [Act.put, List.setIfInBounds_toArray, List.set_cons_zero, List.set_cons_succ])
          refine branchH [10] (by kernel_rfl) (by kernel_rfl) (AllStep.cons ?_ AllStep.nil)
          refine stepH_do (i := 10) rfl (by rfl) ?_
          refine wp_alloc_st H 58 rfl _ ber_zero ?_
          clear H
          intro gr wx H
          replace HS := HS.of H
          refine ⟨HS, ?_⟩
          (try simp only [Act.put, List.setIfInBounds_toArray, List.set_cons_zero, List.set_cons_succ])
          refine branchH [11] (by kernel_rfl) (by kernel_rfl) (AllStep.cons ?_ AllStep.nil)
          refine stepH_do (i := 11) rfl (by rfl) ?_
          refine wp_store_st H 58 _ _ rfl rfl rfl (by kernel_rfl) (by rfl) (by kernel_rfl) ?_
          clear H
          intro wx H
          replace HS := HS.of H
          refine ⟨HS, ?_⟩
          (try simp only [Act.put])
          refine takeAssign (i := 12) rfl rfl _ (by rfl) (by kernel_rfl) (by kernel_rfl) (by kernel_rfl) (fun _ _ _ _ h => h) (by rfl) HS ?_
          (try simp only [Act.put, List.setIfInBounds_toArray, List.set_cons_zero, List.set_cons_succ])
          refine doneH (by kernel_rfl) ?_
          go_wp2_with fail
          go_meet
          exact ⟨_, A9, c9, rfl, rfl, rfl, hc9, H.subm _⟩
        · refine stepH_do (i := 10) rfl (by rfl) ?_
          refine wp_alloc_st H 58 rfl _ ber_zero ?_
          clear H
          intro gr wx H
          replace HS := HS.of H
          refine ⟨HS, ?_⟩
          (try simp only [Act.put, List.setIfInBounds_toArray, List.set_cons_zero, List.set_cons_succ])
          refine branchH [6] (by kernel_rfl) (by kernel_rfl) (AllStep.cons ?_ AllStep.nil)
          refine stepH_do (i := 6) rfl (by rfl) ?_
          have h := HJq.out
          refine wp_call_st rfl Try.func43 (by kernel_rfl) (by kernel_rfl) [.agg (bArr (f i q) (A5 q) (f i q).es.length (c5 q)), .agg #[.int .i64 k, .int .i64 q, .int .i64 ep, .int .i64 pe, .int .i64 e0, .int .i64 e1, .int .i64 e2, .int .i64 e3, .int .i64 e4, .int .i64 e5]] rfl ((CAP.out _ _ H inferInstance).mono ?_)
          clear H h
          rintro ed wy ⟨A9, c9, rfl, hc9, H⟩
          replace HS := HS.of H
          refine ⟨_, rfl, HS, ?_⟩
          (try simp only [Act.put, List.setIfInBounds_toArray, List.set_cons_zero, List.set_cons_succ])
          refine takeMove (i := 7) rfl rfl _ (by rfl) (by kernel_rfl) (by kernel_rfl) (by kernel_rfl) (fun _ _ _ _ h => h) (by rfl) HS ?_
          (try simp only [Act.put, List.setIfInBounds_toArray, List.set_cons_zero, List.set_cons_succ])
          refine takeExtract (i := 8) rfl rfl _ _ (by rfl) (by rfl) (by kernel_rfl) (by kernel_rfl) (by kernel_rfl) (fun _ _ _ _ h => h) (by rfl) HS ?_
          (try simp only [Act.put, List.setIfInBounds_toArray, List.set_cons_zero, List.set_cons_succ])
          refine takeExtract (i := 9) rfl rfl _ _ (by rfl) (by rfl) (by kernel_rfl) (by kernel_rfl) (by kernel_rfl) (fun _ _ _ _ h => h) (by rfl) HS ?_
          (try simp only [Act.put, List.setIfInBounds_toArray, List.set_cons_zero, List.set_cons_succ])
          refine branchH [11] (by kernel_rfl) (by kernel_rfl) (AllStep.cons ?_ AllStep.nil)
          refine stepH_do (i := 11) rfl (by rfl) ?_
          refine wp_store_st H 58 _ _ rfl rfl rfl (by kernel_rfl) (by rfl) (by kernel_rfl) ?_
          clear H
          intro wx H
          replace HS := HS.of H
          refine ⟨HS, ?_⟩
          (try simp only [Act.put])
          refine takeAssign (i := 12) rfl rfl _ (by rfl) (by kernel_rfl) (by kernel_rfl) (by kernel_rfl) (fun _ _ _ _ h => h) (by rfl) HS ?_
          (try simp only [Act.put, List.setIfInBounds_toArray, List.set_cons_zero, List.set_cons_succ])
          refine doneH (by kernel_rfl) ?_
          go_wp2_with fail
          go_meet
          exact ⟨_, A9, c9, rfl, rfl, rfl, hc9, H.subm _⟩
      case rest =>
        clear H
        obtain ⟨g9, A9, c9, rfl, rfl, rfl, hc9, H⟩ := hcut
        rcases HCS.out with ⟨rfl, hiN, hfq, hfj⟩ | ⟨rfl, hc0, rfl⟩
        · have HIN2 := Lib.hid hiN
          have HFQ := Lib.hid hfq
          have HFJ := Lib.hid hfj
          clear hiN hfq hfj
          have HSP := Lib.hid (outB_put (f i) A5 c5 q HQ.out R A9 c9)
          go_wp2_with (first | ((with_reducible refine here_store ?_); go_loud (refine wpList_storePart_st (p := q * 6) (old := outB (f i) A5 c5) (cells := bArr R A9 R.es.length c9) H rfl 58 _ _ rfl rfl rfl (by kernel_rfl) (Nat.ble_eq_true_of_le (show q * 6 + 6 ≤ 24 from by have := HQ.out; omega)) (bArr_one _ _ _ _) ?_); clear H; intro wx H; rw [HSP.out] at H) | (first | ((with_reducible refine here_load ?_); first | refine ldR H rfl _ _ rfl rfl (by kernel_rfl) ?_ | refine ldS H rfl _ _ rfl rfl (by rfl) ?_ | refine ldSG H (by rfl) _ _ rfl rfl (by rfl) ?_ | refine ldRG H (by rfl) _ _ rfl rfl (by kernel_rfl) ?_) | ((with_reducible refine here_store ?_); first | (refine stR H rfl _ _ _ rfl rfl rfl (by rfl) (by rfl) (by kernel_rfl) ?_; clear H; intro wx H) | (refine stS H rfl _ _ _ rfl rfl _ rfl (by rfl) (by rfl) (by rfl) ?_; clear H; intro wx H)) | ((with_reducible refine here_alloc ?_); first | (refine wpList_alloc_st H rfl 37 rfl _ q_zero ?_; clear H; intro gq3 wx H) | (refine wpList_alloc_st H rfl 48 rfl _ ans_zero ?_; clear H; intro ga3 wx H) | (refine wpList_alloc_st H rfl 44 rfl _ ev_zero ?_; clear H; intro ge3 wx H) | (refine wpList_alloc_st H rfl 58 rfl _ ber_zero ?_; clear H; intro gr3 wx H)) | ((with_reducible refine here_box ?_); refine wpList_box_st H rfl _ _ rfl _ rfl ?_; clear H; intro gb3 wx H)))
          go_roundw
          case rel =>
            have hfu : f (i + 1) = upd (f i) q R := funext fun j => by
              unfold upd
              by_cases hj : j = q
              · subst hj
                rw [if_pos rfl, HFQ.out]
              · rw [if_neg hj, HFJ.out j hj]
            refine ⟨i + 1, upd A5 q A9, upd c5 q c9, by have := HIN2.out; omega, by go_num, ?_, ?_⟩
            · intro j hj
              rw [hfu]
              unfold upd
              by_cases h : j = q
              · rw [if_pos h, if_pos h]
                exact hc9
              · rw [if_neg h, if_neg h]
                exact HC5.out j hj
            · rw [hfu]
              have H2 := H.subm (.bl go 58 (outB (upd (f i) q R) (upd A5 q A9) (upd c5 q c9)) :: evIt A9 R.es :: J)
              rw [HJ.out] at H2
              exact outI_upd (f i) A5 q HQ.out R A9 H2
          case measure => have := HLT.out; simp [intOf] <;> omega
        · have z1 : ((cd : Int) != 0) = true := by simpa using hc0
          have z2 : ((cd : Int) == 0) = false := beq_eq_false_iff_ne.2 hc0
          have HNE := Lib.hid (show i ≠ n from by have := HLT.out; omega)
          go_wp2_with (first | ((with_reducible refine here_load ?_); first | refine ldR H rfl _ _ rfl rfl (by kernel_rfl) ?_ | refine ldS H rfl _ _ rfl rfl (by rfl) ?_ | refine ldSG H (by rfl) _ _ rfl rfl (by rfl) ?_ | refine ldRG H (by rfl) _ _ rfl rfl (by kernel_rfl) ?_) | ((with_reducible refine here_store ?_); first | (refine stR H rfl _ _ _ rfl rfl rfl (by rfl) (by rfl) (by kernel_rfl) ?_; clear H; intro wx H) | (refine stS H rfl _ _ _ rfl rfl _ rfl (by rfl) (by rfl) (by rfl) ?_; clear H; intro wx H)) | ((with_reducible refine here_alloc ?_); first | (refine wpList_alloc_st H rfl 37 rfl _ q_zero ?_; clear H; intro gq4 wx H) | (refine wpList_alloc_st H rfl 48 rfl _ ans_zero ?_; clear H; intro ga4 wx H) | (refine wpList_alloc_st H rfl 44 rfl _ ev_zero ?_; clear H; intro ge4 wx H) | (refine wpList_alloc_st H rfl 58 rfl _ ber_zero ?_; clear H; intro gr4 wx H)) | ((with_reducible refine here_box ?_); refine wpList_box_st H rfl _ _ rfl _ rfl ?_; clear H; intro gb4 wx H))
          exact bodyPost_ret (v := .tuple #[.slice none 0 0, .int .i64 i, .int .i64 cd]) (by simp [results, Try.results18, asAddr]) rfl (HFno.out _ HNE.out (outI_drop (f i) A5 (by rw [← HJ.out]; exact H.subm _)))
    · have HNN := Lib.hid (show N = n from by omega)
      obtain rfl : i = N := by omega
      have hlt2 : ¬ (i : Int) < (n : Int) := by omega
      have k9 := decide_eq_false hlt2
      have HC5 := Lib.hid hc5
      clear hlt hi hc5
      go_wp2_with (first | ((with_reducible refine here_load ?_); first | refine ldR H rfl _ _ rfl rfl (by kernel_rfl) ?_ | refine ldS H rfl _ _ rfl rfl (by rfl) ?_ | refine ldSG H (by rfl) _ _ rfl rfl (by rfl) ?_ | refine ldRG H (by rfl) _ _ rfl rfl (by kernel_rfl) ?_) | ((with_reducible refine here_store ?_); first | (refine stR H rfl _ _ _ rfl rfl rfl (by rfl) (by rfl) (by kernel_rfl) ?_; clear H; intro wx H) | (refine stS H rfl _ _ _ rfl rfl _ rfl (by rfl) (by rfl) (by rfl) ?_; clear H; intro wx H)) | ((with_reducible refine here_alloc ?_); first | (refine wpList_alloc_st H rfl 37 rfl _ q_zero ?_; clear H; intro gq5 wx H) | (refine wpList_alloc_st H rfl 48 rfl _ ans_zero ?_; clear H; intro ga5 wx H) | (refine wpList_alloc_st H rfl 44 rfl _ ev_zero ?_; clear H; intro ge5 wx H) | (refine wpList_alloc_st H rfl 58 rfl _ ber_zero ?_; clear H; intro gr5 wx H)) | ((with_reducible refine here_box ?_); refine wpList_box_st H rfl _ _ rfl _ rfl ?_; clear H; intro gb5 wx H))
      exact bodyPost_ret (v := .tuple #[.slice (some ⟨go, 0, none⟩) 4 4, .int .i64 0, .int .i64 0]) (by simp [results, Try.results18, asAddr]) rfl (HFok.out _ _ _ _ HNN.out HC5.out H)


end Go.Proofs.Ytjmncbfmjeeneaa

namespace Go.Proofs.Ytjmncbfmjeeneaa
open Go.RowKit

theorem fits_of (b : BM) (r : Rc) (R : BM × Int) (m : Nat) (hb : b.Ok m) (hm : m ≤ 150) (hr2 : b.role ≠ 2) (hck : Rc.check r = 0) (hpe : r.kind ≠ 3 ∧ r.kind ≠ 4 → r.peer = 0) (hlen : R.1.es.length ≤ 150)
    (hact : ∀ w0 A c, b.es.length ≤ c → Acts w0 r.kind (bArr b A b.es.length c) r.cells A b.es R) : Fits b r (applied R) := by
  obtain ⟨ro, be, bf, bd, br, es⟩ := b
  obtain ⟨k, q, ep, pe, ⟨e0, e1, e2, e3, e4, e5⟩⟩ := r
  refine ⟨hck, fun w0 w I A c hc H h => ?_⟩
  exact apply_st (h := h) ro be bf bd br es A es.length c m k q ep pe e0 e1 e2 e3 e4 e5 R rfl hb hm hc hr2 hck hpe hlen (hact w0 A c hc) H
theorem rc_chk (k q ep pe : Int) (e : Ev) (hk : 1 ≤ k ∧ k ≤ 7) (hq : 0 ≤ q ∧ q < 4) (he : 0 ≤ ep ∧ ep ≤ 1048576) (hp : 0 ≤ pe ∧ pe < 5) (h : if k = 2 ∨ k = 5 then e.check = 0 else e = Ev.zero) : Rc.check ⟨k, q, ep, pe, e⟩ = 0 := by
  unfold Rc.check
  dsimp only
  rw [if_neg (by omega)]
  have h1 : (inB q 0 3 && inB ep 0 1048576 && inB pe 0 4) = true := by simp [inB]; omega
  rw [if_neg (by rw [h1]; simp)]
  split at h
  · next h2 =>
    rw [if_pos (by unfold hasEv; rcases h2 with rfl | rfl <;> rfl)]
    exact h
  · next h2 =>
    rw [if_neg (by unfold hasEv; simp; omega)]
    subst h
    rfl
theorem fits_create (b : BM) (m : Nat) (q ep : Int) (hb : b.Ok m) (hm : m ≤ 150) (hr : b.role = 0) (hq : 0 ≤ q ∧ q < 4) (h1 : b.ep < ep) (h1' : 1 ≤ ep) (h2 : ep ≤ 1048576) : Fits b ⟨1, q, ep, 0, Ev.zero⟩ (BM.made ep, 0) := by
  have h := fits_of b ⟨1, q, ep, 0, Ev.zero⟩ (b.makeR ep) m hb hm (by omega) (rc_chk 1 q ep 0 _ (by omega) hq (by omega) (by omega) (by rw [if_neg (by omega)])) (fun _ => rfl)
    (by have := (BM.Ok.makeR (b := b) ep).len; omega) (fun w0 A c hc => act_create b.role b.ep b.frm b.dst b.rounds b.es A _ c m q ep 0 0 0 0 0 0 0 rfl hb hm hc)
  have hR : b.makeR ep = (BM.made ep, 0) := by
    unfold BM.makeR
    rw [if_neg (by omega), if_neg (by omega), if_neg (by omega)]
  rw [hR] at h
  exact h
theorem fits_create_no (b : BM) (m : Nat) (q ep : Int) (hb : b.Ok m) (hm : m ≤ 150) (hr2 : b.role ≠ 2) (hr : b.role ≠ 0) (hq : 0 ≤ q ∧ q < 4) (h1 : 1 ≤ ep) (h2 : ep ≤ 1048576) : Fits b ⟨1, q, ep, 0, Ev.zero⟩ (⟨0, 0, 0, 0, 0, []⟩, 3) := by
  have h := fits_of b ⟨1, q, ep, 0, Ev.zero⟩ (b.makeR ep) m hb hm hr2 (rc_chk 1 q ep 0 _ (by omega) hq (by omega) (by omega) (by rw [if_neg (by omega)])) (fun _ => rfl)
    (by have := (BM.Ok.makeR (b := b) ep).len; omega) (fun w0 A c hc => act_create b.role b.ep b.frm b.dst b.rounds b.es A _ c m q ep 0 0 0 0 0 0 0 rfl hb hm hc)
  have hR : b.makeR ep = (BM.zero, 8) := by
    unfold BM.makeR
    rw [if_neg (by omega), if_pos (by omega)]
  rw [hR] at h
  exact h
theorem fits_history (ep : Int) (es : List Ev) (e : Ev) (m : Nat) (q : Int) (hb : (⟨1, ep, 0, 0, 0, es⟩ : BM).Ok m) (hm : m ≤ 150) (hn : (⟨1, ep, 0, 0, 0, es ++ [e]⟩ : BM).Ok m) (he : e.check = 0) (hq : 0 ≤ q ∧ q < 4) (h1 : 1 ≤ ep) (h2 : ep ≤ 1048576) : Fits ⟨1, ep, 0, 0, 0, es⟩ ⟨2, q, ep, 0, e⟩ (⟨1, ep, 0, 0, 0, es ++ [e]⟩, 0) := by
  obtain ⟨e0, e1, e2, e3, e4, e5⟩ := e
  exact fits_of _ ⟨2, q, ep, 0, ⟨e0, e1, e2, e3, e4, e5⟩⟩ (⟨1, ep, 0, 0, 0, es ++ [⟨e0, e1, e2, e3, e4, e5⟩]⟩, 0) m hb hm (by show (1 : Int) ≠ 2; decide) (rc_chk 2 q ep 0 _ (by omega) hq (by omega) (by omega) (by rw [if_pos (by omega)]; exact he)) (fun _ => rfl)
    (by have := hn.len; exact Nat.le_trans this hm) (fun w0 A c hc => act_history 1 ep 0 0 0 es A _ c m m q ep 0 e0 e1 e2 e3 e4 e5 rfl hb hm hc rfl rfl hn hm)
theorem fits_import (ep fr : Int) (es : List Ev) (e : Ev) (m : Nat) (q : Int) (hb : (⟨4, ep, fr, 0, 0, es⟩ : BM).Ok m) (hm : m ≤ 150) (hn : (⟨4, ep, fr, 0, 0, es ++ [e]⟩ : BM).Ok m) (he : e.check = 0) (hq : 0 ≤ q ∧ q < 4) (h1 : 1 ≤ ep) (h2 : ep ≤ 1048576) : Fits ⟨4, ep, fr, 0, 0, es⟩ ⟨5, q, ep, 0, e⟩ (⟨4, ep, fr, 0, 0, es ++ [e]⟩, 0) := by
  obtain ⟨e0, e1, e2, e3, e4, e5⟩ := e
  exact fits_of _ ⟨5, q, ep, 0, ⟨e0, e1, e2, e3, e4, e5⟩⟩ (⟨4, ep, fr, 0, 0, es ++ [⟨e0, e1, e2, e3, e4, e5⟩]⟩, 0) m hb hm (by show (4 : Int) ≠ 2; decide) (rc_chk 5 q ep 0 _ (by omega) hq (by omega) (by omega) (by rw [if_pos (by omega)]; exact he)) (fun _ => rfl)
    (by have := hn.len; exact Nat.le_trans this hm) (fun w0 A c hc => act_import 4 ep fr 0 0 es A _ c m m q ep 0 e0 e1 e2 e3 e4 e5 rfl hb hm hc rfl rfl hn hm)
theorem fits_seal (ep : Int) (es : List Ev) (m : Nat) (q pe : Int) (hb : (⟨1, ep, 0, 0, 0, es⟩ : BM).Ok m) (hm : m ≤ 150) (hp : 0 ≤ pe ∧ pe < 5) (hq : 0 ≤ q ∧ q < 4) (h1 : 1 ≤ ep) (h2 : ep ≤ 1048576) : Fits ⟨1, ep, 0, 0, 0, es⟩ ⟨3, q, ep, pe, Ev.zero⟩ (⟨3, ep, 0, pe, 0, es⟩, 0) :=
  fits_of _ ⟨3, q, ep, pe, Ev.zero⟩ (⟨3, ep, 0, pe, 0, es⟩, 0) m hb hm (by show (1 : Int) ≠ 2; decide) (rc_chk 3 q ep pe _ (by omega) hq (by omega) hp (by rw [if_neg (by omega)])) (fun h => absurd rfl h.1)
    (by have := hb.len; exact Nat.le_trans this hm) (fun w0 A c hc => act_seal 1 ep 0 0 0 es A _ c m q ep pe 0 0 0 0 0 0 rfl hb hm hc rfl rfl)
theorem fits_begin (b : BM) (m : Nat) (q ep pe : Int) (hb : b.Ok m) (hm : m ≤ 150) (hr : b.role = 0) (hp : 0 ≤ pe ∧ pe < 5) (hq : 0 ≤ q ∧ q < 4) (h1 : b.ep < ep) (h1' : 1 ≤ ep) (h2 : ep ≤ 1048576) : Fits b ⟨4, q, ep, pe, Ev.zero⟩ (⟨4, ep, pe, 0, 0, []⟩, 0) := by
  have h := fits_of b ⟨4, q, ep, pe, Ev.zero⟩ (b.beginR ep pe) m hb hm (by omega) (rc_chk 4 q ep pe _ (by omega) hq (by omega) hp (by rw [if_neg (by omega)])) (fun h => absurd rfl h.2)
    (by have := (hb.beginR ep pe).len; omega) (fun w0 A c hc => act_begin b.role b.ep b.frm b.dst b.rounds b.es A _ c m q ep pe 0 0 0 0 0 0 rfl hb hm hc)
  have hR : b.beginR ep pe = (⟨4, ep, pe, 0, 0, []⟩, 0) := by
    unfold BM.beginR
    rw [if_neg (by omega), if_neg (by omega), if_neg (by omega), if_neg (by omega)]
  rw [hR] at h
  exact h
theorem fits_activate (ep fr : Int) (es : List Ev) (m : Nat) (q : Int) (hb : (⟨4, ep, fr, 0, 0, es⟩ : BM).Ok m) (hm : m ≤ 150) (hn : (⟨1, ep, 0, 0, 0, es ++ [⟨4, 0, 0, 0, 0, 0⟩]⟩ : BM).Ok m) (hq : 0 ≤ q ∧ q < 4) (h1 : 1 ≤ ep) (h2 : ep ≤ 1048576) : Fits ⟨4, ep, fr, 0, 0, es⟩ ⟨6, q, ep, 0, Ev.zero⟩ (⟨1, ep, 0, 0, 0, es ++ [⟨4, 0, 0, 0, 0, 0⟩]⟩, 0) := by
  have h := fits_of _ ⟨6, q, ep, 0, Ev.zero⟩ (⟨1, ep, 0, 0, 0, es ++ [(⟨4, 0, 0, 0, 0, 0⟩ : Ev)]⟩, 0) m hb hm (by show (4 : Int) ≠ 2; decide) (rc_chk 6 q ep 0 _ (by omega) hq (by omega) (by omega) (by rw [if_neg (by omega)])) (fun _ => rfl)
    (by have := hn.len; exact Nat.le_trans this hm) (fun w0 A c hc => act_activate 4 ep fr 0 0 es A _ c m m q ep 0 0 0 0 0 0 0 rfl hb hm hc rfl rfl hn hm)
  exact h
theorem fits_activate_no (b : BM) (m : Nat) (q ep : Int) (hb : b.Ok m) (hm : m ≤ 150) (hr2 : b.role ≠ 2) (hr : b.role ≠ 4) (hq : 0 ≤ q ∧ q < 4) (h1 : 0 ≤ ep) (h2 : ep ≤ 1048576) : Fits b ⟨6, q, ep, 0, Ev.zero⟩ (⟨0, 0, 0, 0, 0, []⟩, 3) :=
  fits_of b ⟨6, q, ep, 0, Ev.zero⟩ (⟨0, 0, 0, 0, 0, []⟩, 3) m hb hm hr2 (rc_chk 6 q ep 0 _ (by omega) hq (by omega) (by omega) (by rw [if_neg (by omega)])) (fun _ => rfl)
    (Nat.zero_le _) (fun w0 A c hc => act_activate_no b.role b.ep b.frm b.dst b.rounds b.es A _ c m q ep 0 0 0 0 0 0 0 rfl hb hm hc (.inl hr))
theorem fits_forget (ep : Int) (es : List Ev) (dst : Int) (m : Nat) (q : Int) (hb : (⟨3, ep, 0, dst, 0, es⟩ : BM).Ok m) (hm : m ≤ 150) (hq : 0 ≤ q ∧ q < 4) (h1 : 1 ≤ ep) (h2 : ep ≤ 1048576) : Fits ⟨3, ep, 0, dst, 0, es⟩ ⟨7, q, ep, 0, Ev.zero⟩ (⟨0, ep, 0, 0, 0, []⟩, 0) := by
  have h := fits_of ⟨3, ep, 0, dst, 0, es⟩ ⟨7, q, ep, 0, Ev.zero⟩ (BM.forgetR ⟨3, ep, 0, dst, 0, es⟩ (ep + 1)) m hb hm (by show (3 : Int) ≠ 2; decide) (rc_chk 7 q ep 0 _ (by omega) hq (by omega) (by omega) (by rw [if_neg (by omega)])) (fun _ => rfl)
    (by have := (hb.forgetR (ep + 1)).len; omega) (fun w0 A c hc => act_forget 3 ep 0 dst 0 es A _ c m q ep 0 0 0 0 0 0 0 rfl hb hm hc rfl rfl (by omega) h2)
  have hR : BM.forgetR ⟨3, ep, 0, dst, 0, es⟩ (ep + 1) = (⟨0, ep, 0, 0, 0, []⟩, 0) := by
    unfold BM.forgetR
    dsimp only
    rw [if_neg (by omega), if_neg (by omega)]
  rw [hR] at h
  exact h
theorem fits_forget_no (b : BM) (m : Nat) (q ep : Int) (hb : b.Ok m) (hm : m ≤ 150) (hr2 : b.role ≠ 2) (hr : b.role ≠ 3) (hq : 0 ≤ q ∧ q < 4) (h1 : 0 ≤ ep) (h2 : ep ≤ 1048576) : Fits b ⟨7, q, ep, 0, Ev.zero⟩ (⟨0, 0, 0, 0, 0, []⟩, 3) :=
  fits_of b ⟨7, q, ep, 0, Ev.zero⟩ (⟨0, 0, 0, 0, 0, []⟩, 3) m hb hm hr2 (rc_chk 7 q ep 0 _ (by omega) hq (by omega) (by omega) (by rw [if_neg (by omega)])) (fun _ => rfl)
    (Nat.zero_le _) (fun w0 A c hc => act_forget_no b.role b.ep b.frm b.dst b.rounds b.es A _ c m q ep 0 0 0 0 0 0 0 rfl hb hm hc (.inl hr))
theorem applied_0 (b : BM) : applied (b, 0) = (b, 0) := rfl

/-- one queue's records, and what they make of its berth -/
def Chain (q : Nat) (rs : List Rc) (s : Nat → BM) : Prop := ∀ i, i < rs.length → (rs.getD i rc0).queue = (q : Int) ∧ Fits (s i) (rs.getD i rc0) (s (i + 1), 0)
theorem getD_left {α : Type} {l k : List α} {i : Nat} {d : α} (h : i < l.length) : (l ++ k).getD i d = l.getD i d := by
  simp [List.getD, List.getElem?_append_left h]
theorem getD_end {α : Type} {l : List α} {x : α} {d : α} : (l ++ [x]).getD l.length d = x := by
  simp [List.getD]
theorem Chain.nil (q : Nat) (s : Nat → BM) : Chain q [] s := fun i hi => by cases hi
theorem Chain.snoc {q : Nat} {rs : List Rc} {s : Nat → BM} (h : Chain q rs s) (r : Rc) (b : BM) (hq : r.queue = (q : Int)) (hf : Fits (s rs.length) r (b, 0)) : Chain q (rs ++ [r]) (fun i => if i ≤ rs.length then s i else b) := by
  intro i hi
  rw [List.length_append] at hi
  by_cases h1 : i < rs.length
  · rw [getD_left h1]
    dsimp only
    rw [if_pos (by omega), if_pos (by omega)]
    exact h i h1
  · obtain rfl : i = rs.length := by have : [r].length = 1 := rfl; omega
    rw [getD_end]
    dsimp only
    rw [if_pos (Nat.le_refl _), if_neg (by omega)]
    exact ⟨hq, hf⟩
theorem Chain.cut {q : Nat} {rs : List Rc} {s : Nat → BM} (h : Chain q rs s) (k : Nat) : Chain q (rs.take k) s := by
  intro i hi
  rw [List.length_take] at hi
  have h2 : (rs.take k).getD i rc0 = rs.getD i rc0 := by
    simp only [List.getD]
    rw [List.getElem?_take_of_lt (by omega)]
  rw [h2]
  exact h i (by omega)
/-- the berths, where one queue alone has records -/
def oneQ (q : Nat) (s : Nat → BM) (i j : Nat) : BM := if j = q then s i else BM.zero
theorem Chain.step {q : Nat} {rs : List Rc} {s : Nat → BM} (h : Chain q rs s) (hq : q < 4) (i : Nat) (hi : i < rs.length) : StepAt rs (oneQ q s) i :=
  ⟨q, hq, (h i hi).1, by unfold oneQ; rw [if_pos rfl, if_pos rfl]; exact (h i hi).2, fun j hj => by unfold oneQ; rw [if_neg hj, if_neg hj]⟩
theorem oneQ_zero (q : Nat) (s : Nat → BM) (h : s 0 = BM.zero) (j : Nat) : oneQ q s 0 j = BM.zero := by
  unfold oneQ
  split
  · exact h
  · rfl
/-- the states of a berth that was made and has served -/
def actS (ep : Int) (es : List Ev) : Nat → BM
  | 0 => BM.zero
  | i + 1 => ⟨1, ep, 0, 0, 0, es.take i⟩
def impS (ep fr : Int) (es : List Ev) : Nat → BM
  | 0 => BM.zero
  | i + 1 => ⟨4, ep, fr, 0, 0, es.take i⟩
theorem histOf_at (q ep : Int) (es : List Ev) (i : Nat) (hi : i < es.length) : (histOf q ep es).getD (i + 1) rc0 = ⟨2, q, ep, 0, es.getD i .zero0⟩ := by
  simp [histOf, List.getD, List.getElem?_eq_getElem hi]
theorem take_sn (es : List Ev) (i : Nat) (hi : i < es.length) : es.take i ++ [es.getD i .zero0] = es.take (i + 1) := (take_ev es i hi).symm ▸ rfl
theorem hist_chain (q : Nat) (hq : q < 4) (ep : Int) (es : List Ev) (m : Nat) (hb : (⟨1, ep, 0, 0, 0, es⟩ : BM).Ok m) (hm : m ≤ 150) (h1 : 1 ≤ ep) (h2 : ep ≤ 1048576) : Chain q (histOf q ep es) (actS ep es) := by
  intro i hi
  rw [histOf_len] at hi
  have hcut : ∀ k, (⟨1, ep, 0, 0, 0, es.take k⟩ : BM).Ok m := fun k => hb.cut k (.inr ⟨h1, h2, .inl ⟨rfl, rfl, rfl, rfl⟩⟩) rfl
  cases i with
  | zero =>
    refine ⟨rfl, ?_⟩
    exact fits_create BM.zero 0 q ep BM.zero_ok (by omega) rfl (by omega) (by show (0 : Int) < ep; omega) h1 h2
  | succ i =>
    have hi' : i < es.length := by omega
    rw [histOf_at _ _ _ _ hi']
    refine ⟨rfl, ?_⟩
    unfold actS
    dsimp only
    have h3 := hcut (i + 1)
    rw [← take_sn es i hi'] at h3 ⊢
    refine fits_history ep (es.take i) _ m q (hcut i) hm h3 ?_ (by omega) h1 h2
    refine hb.chk _ ?_
    show es.getD i .zero0 ∈ es
    rw [List.getD, List.getElem?_eq_getElem hi']
    exact List.getElem_mem hi'
theorem actS_at (ep : Int) (es : List Ev) (i : Nat) (h : 0 < i) : actS ep es i = ⟨1, ep, 0, 0, 0, es.take (i - 1)⟩ := by
  cases i with
  | zero => omega
  | succ i => rfl
theorem seal_chain (q : Nat) (hq : q < 4) (ep dst : Int) (es : List Ev) (m : Nat) (hb : (⟨1, ep, 0, 0, 0, es⟩ : BM).Ok m) (hm : m ≤ 150) (h1 : 1 ≤ ep) (h2 : ep ≤ 1048576) (h3 : 0 ≤ dst ∧ dst < 5) :
    Chain q (histOf q ep es ++ [⟨3, q, ep, dst, Ev.zero⟩]) (fun i => if i ≤ (histOf q ep es).length then actS ep es i else ⟨3, ep, 0, dst, 0, es⟩) := by
  refine (hist_chain q hq ep es m hb hm h1 h2).snoc ⟨3, q, ep, dst, Ev.zero⟩ _ rfl ?_
  rw [histOf_len, actS_at _ _ _ (by omega), Nat.add_sub_cancel, List.take_length]
  exact fits_seal ep es m q dst hb hm h3 (by omega) h1 h2

end Go.Proofs.Ytjmncbfmjeeneaa

namespace Go.Proofs.Ytjmncbfmjeeneaa
open Go.RowKit

def outOf (k : Nat) (b : BM) (j : Nat) : BM := if j = k then b else BM.zero
/-- the berths of All: a row of 24 cells, of which the k-th berth is b, all others have none -/
def AOut (w0 : World) (I : List It) (k : Nat) (r e f d o : Int) (es : List Ev) (m : Nat) (ed : Ending) (w' : World) : Prop :=
  ∃ go A c cs, ed = .returned (.tuple #[.slice (some ⟨go, 0, none⟩) 4 4, .int .i64 0, .int .i64 0]) ∧ m ≤ c ∧ cs.size = 24 ∧ cs.extract (k * 6) (k * 6 + 6) = #[.int .i64 r, .int .i64 e, .int .i64 f, .int .i64 d, .int .i64 o, .slice A m c] ∧
    (∀ j, j < 4 → cs.toList[j * 6]? = some (.int .i64 (if j = k then r else 0))) ∧ cs.toList[k * 6 + 1]? = some (.int .i64 e) ∧ cs.toList[k * 6 + 5]? = some (.slice A m c) ∧ St w0 w' (.bl go 58 cs :: evIt A es :: I)
theorem outB_role (B : Nat → BM) (A : Nat → Option Addr) (c : Nat → Nat) (j : Nat) (hj : j < 4) : (outB B A c).toList[j * 6]? = some (.int .i64 (B j).role) := by
  match j, hj with
  | 0, _ => rfl
  | 1, _ => rfl
  | 2, _ => rfl
  | 3, _ => rfl
theorem outB_ep (B : Nat → BM) (A : Nat → Option Addr) (c : Nat → Nat) (j : Nat) (hj : j < 4) : (outB B A c).toList[j * 6 + 1]? = some (.int .i64 (B j).ep) := by
  match j, hj with
  | 0, _ => rfl
  | 1, _ => rfl
  | 2, _ => rfl
  | 3, _ => rfl
theorem outB_es (B : Nat → BM) (A : Nat → Option Addr) (c : Nat → Nat) (j : Nat) (hj : j < 4) : (outB B A c).toList[j * 6 + 5]? = some (.slice (A j) (B j).es.length (c j)) := by
  match j, hj with
  | 0, _ => rfl
  | 1, _ => rfl
  | 2, _ => rfl
  | 3, _ => rfl
theorem outI_one {w0 w : World} {I : List It} {x : It} (B : Nat → BM) (A : Nat → Option Addr) (q : Nat) (hq : q < 4) (H : St w0 w (x :: (outI B A ++ I))) : St w0 w (x :: evIt (A q) (B q).es :: I) := by
  match q, hq with
  | 0, _ => exact (show St w0 w (x :: evIt (A 0) (B 0).es :: evIt (A 1) (B 1).es :: evIt (A 2) (B 2).es :: evIt (A 3) (B 3).es :: I) from H).subm (x :: evIt (A 0) (B 0).es :: I)
  | 1, _ => exact (show St w0 w (x :: evIt (A 0) (B 0).es :: evIt (A 1) (B 1).es :: evIt (A 2) (B 2).es :: evIt (A 3) (B 3).es :: I) from H).subm (x :: evIt (A 1) (B 1).es :: I)
  | 2, _ => exact (show St w0 w (x :: evIt (A 0) (B 0).es :: evIt (A 1) (B 1).es :: evIt (A 2) (B 2).es :: evIt (A 3) (B 3).es :: I) from H).subm (x :: evIt (A 2) (B 2).es :: I)
  | 3, _ => exact (show St w0 w (x :: evIt (A 0) (B 0).es :: evIt (A 1) (B 1).es :: evIt (A 2) (B 2).es :: evIt (A 3) (B 3).es :: I) from H).subm (x :: evIt (A 3) (B 3).es :: I)
/-- all records fit -/
theorem all_one {w0 w : World} {I : List It} (k : Nat) (hk : k < 4) (rs : List Rc) (s : Nat → BM) (r e f d o : Int) (es : List Ev) (m N : Nat) (hm : es.length = m) (hl : rs.length = N) (hN : N ≤ 10000) (hch : Chain k rs s) (h0 : s 0 = BM.zero) (hs : s N = ⟨r, e, f, d, o, es⟩) (A : Option Addr) (c : Nat) (hc : N ≤ c) (H : St w0 w I) [h : Has I (rcIt A rs)] :
    Calls Try.prog 18 #[.slice A N c] w (AOut w0 I k r e f d o es m) := by
  refine (all_st rs A N c N (oneQ k s) 0 hl hN hc (Nat.le_refl _) (oneQ_zero k s h0) (fun i hi => hch.step hk i (by omega)) (fun h => absurd h (Nat.lt_irrefl _)) H).mono ?_
  intro ed w' hp
  unfold APost at hp
  rw [if_pos rfl] at hp
  have hB : oneQ k s N = outOf k ⟨r, e, f, d, o, es⟩ := by
    funext j
    unfold oneQ outOf
    rw [hs]
  rw [hB] at hp
  obtain ⟨go, A', c', rfl, hc', H'⟩ := hp
  have hkk : outOf k ⟨r, e, f, d, o, es⟩ k = ⟨r, e, f, d, o, es⟩ := by
    unfold outOf
    rw [if_pos rfl]
  have H2 := outI_one _ A' k hk H'
  rw [hkk] at H2
  refine ⟨go, A' k, c' k, outB (outOf k ⟨r, e, f, d, o, es⟩) A' c', rfl, ?_, outB_size _ _ _, ?_, fun j hj => ?_, ?_, ?_, H2⟩
  · have h4 := hc' k hk
    rw [hkk] at h4
    exact hm ▸ h4
  · rw [outB_part _ _ _ k hk, hkk, ← hm]
    rfl
  · rw [outB_role _ _ _ j hj]
    unfold outOf
    by_cases h : j = k
    · rw [if_pos h, if_pos h]
    · rw [if_neg h, if_neg h]
      rfl
  · rw [outB_ep _ _ _ k hk, hkk]
  · rw [outB_es _ _ _ k hk, hkk, ← hm]
/-- the last record does not fit -/
theorem all_bad {w0 w : World} {I : List It} (k : Nat) (hk : k < 4) (rs : List Rc) (x : Rc) (s : Nat → BM) (R : BM) (code : Int) (N : Nat) (hl : rs.length = N) (hN : N < 10000) (hch : Chain k rs s) (h0 : s 0 = BM.zero) (hx : x.queue = (k : Int)) (hcode : code ≠ 0) (hf : Fits (s N) x (R, code)) (A : Option Addr) (c : Nat) (hc : N + 1 ≤ c) (H : St w0 w I) [h : Has I (rcIt A (rs ++ [x]))] :
    Calls Try.prog 18 #[.slice A (N + 1) c] w (fun ed w' => ed = .returned (.tuple #[.slice none 0 0, .int .i64 N, .int .i64 code]) ∧ St w0 w' I) := by
  have hgl : ∀ i, i < N → (rs ++ [x]).getD i rc0 = rs.getD i rc0 := fun i hi => getD_left (by omega)
  have hge : (rs ++ [x]).getD N rc0 = x := by rw [← hl]; exact getD_end
  refine (all_st (rs ++ [x]) A (N + 1) c N (oneQ k s) code (by rw [List.length_append, hl]; rfl) (by omega) hc (by omega) (oneQ_zero k s h0) (fun i hi => ?_) (fun _ => ?_) H).mono ?_
  · obtain ⟨q, h1, h2, h3, h4⟩ := hch.step hk i (by omega)
    refine ⟨q, h1, ?_, ?_, h4⟩
    · rw [hgl i hi]; exact h2
    · rw [hgl i hi]; exact h3
  · refine ⟨k, R, hk, by rw [hge]; exact hx, hcode, ?_⟩
    rw [hge]
    unfold oneQ
    rw [if_pos rfl]
    exact hf
  · intro ed w' hp
    unfold APost at hp
    rw [if_neg (by omega)] at hp
    exact hp
theorem records_to {w0 w : World} {I : List It} (q : Int) (r be bf bd br : Int) (es : List Ev) (A : Option Addr) (n c N : Nat) (rs : List Rc) (hrs : recsOf q ⟨r, be, bf, bd, br, es⟩ = rs) (hN : rs.length = N) (hl : es.length = n) (hn : n ≤ 150) (hc : n ≤ c) (H : St w0 w I) [h : Has I (evIt A es)] :
    Calls Try.prog 17 #[.int .i64 q, .agg #[.int .i64 r, .int .i64 be, .int .i64 bf, .int .i64 bd, .int .i64 br, .slice A n c]] w (fun ed w' => ∃ A c, ed = .returned (.slice A N c) ∧ N ≤ c ∧ c ≤ maxLen ∧ St w0 w' (.ow 67 10 (.slice A N c) N (rcCells rs) :: I)) := by
  subst hrs
  subst hN
  exact records_st q r be bf bd br es A n c hl hn hc H
theorem St.frzRc {w0 w : World} {I : List It} {A : Option Addr} {c n : Nat} {rs : List Rc} (H : St w0 w (.ow 67 10 (.slice A n c) n (rcCells rs) :: I)) (hn : rs.length = n) : St w0 w (rcIt A rs :: I) := by
  subst hn
  exact St.freeze (h := RepO.here) H
theorem rcCells_app (a b : List Rc) : rcCells (a ++ b) = rcCells a ++ rcCells b := by simp [rcCells]
theorem rcCells_len (rs : List Rc) : (rcCells rs).length = rs.length * 10 := by
  rw [rcCells_eq, rowCells_len 10 _ (fun r hr => by obtain ⟨x, _, rfl⟩ := List.mem_map.1 hr; rfl)]
  simp
theorem rcCells_take (rs : List Rc) (k : Nat) (hk : k ≤ rs.length) : (rcCells rs).take (k * 10) = rcCells (rs.take k) := by
  have h1 : rcCells rs = rcCells (rs.take k) ++ rcCells (rs.drop k) := by
    rw [← rcCells_app, List.take_append_drop]
  have h2 : (rcCells (rs.take k)).length = k * 10 := by
    rw [rcCells_len]
    simp [Nat.min_eq_left hk]
  rw [h1, ← h2, List.take_left]
theorem rcCells_one (rs : List Rc) : ∀ u ∈ rcCells rs, u.oneCell' = true := by
  intro u hu
  rw [rcCells_eq] at hu
  simp only [rowCells, List.mem_flatMap, List.mem_map] at hu
  obtain ⟨l, _, h⟩ := hu
  obtain ⟨z, _, rfl⟩ := h
  rfl
/-- the first records of a slice -/
theorem St.takeRc {w0 w : World} {I : List It} {A : Option Addr} {rs : List Rc} (H : St w0 w I) [h : Has I (rcIt A rs)] (k : Nat) (hk : k ≤ rs.length) : St w0 w (rcIt A (rs.take k) :: I) := by
  have hr : Reads w w.heap.size 10 A rs.length (rcCells rs) := H.get (rcIt A rs)
  have hr2 := hr.take hk
  rw [rcCells_take rs k hk] at hr2
  have hl : (rs.take k).length = k := by simp [Nat.min_eq_left hk]
  refine St.again (h := h) H (by rw [hl]; exact hr2) (fun g hg => ?_)
  simp only [It.area] at hg ⊢
  split at hg
  · cases hg
  · next hz => rw [if_neg (by omega)]; exact hg
theorem St.rcReads {w0 w : World} {I : List It} {A : Option Addr} {rs : List Rc} {n : Nat} (H : St w0 w I) [h : Has I (rcIt A rs)] (hl : rs.length = n) : Reads w w.heap.size 10 A n (rcCells rs) := by
  subst hl
  exact H.get (rcIt A rs)
theorem subA_zero (A : Option Addr) (m s : Nat) : subA A 0 m s = A := by
  unfold subA
  split
  · rfl
  · cases A with
    | none => rfl
    | some ad =>
      rw [Nat.zero_mul]
      obtain ⟨b, o, k⟩ := ad
      show some (Addr.add ⟨b, o, k⟩ 0) = _
      unfold Addr.add
      split <;> simp_all
theorem histOf_take (q ep : Int) (es : List Ev) (j : Nat) : (histOf q ep es).take (j + 1) = histOf q ep (es.take j) := by simp [histOf, List.map_take]

end Go.Proofs.Ytjmncbfmjeeneaa
