/- strings.Lines: the iterator's loop. -/
import Derived.BigQuiet
import Derived.BigRegion
import Derived.Deep.DeepCutAuto
import Derived.Deep.QuietTactic
import Derived.Deep.RegionHeld3
import Derived.StillTailTactics
import Derived.Test.YtjakmpkfniangaaDoorRnd
import Derived.Test.YtjakmpkfniangaaDoorLib
namespace Go.Proofs.YtjakmpkfniangaaDoor
open Go.RowKit

set_option linter.unusedVariables false
open Go.Lib
instance scTy_strL : ScTy 9 := ⟨by kernel_rfl, by kernel_rfl⟩
/-- a text's first line, with its end, and the rest -/
def cutLn (s : ByteArray) : ByteArray × ByteArray :=
  if indexByte s.data.toList 10 < 0 then (s, ⟨#[]⟩) else (s.extract 0 ((indexByte s.data.toList 10).toNat + 1), s.extract ((indexByte s.data.toList 10).toNat + 1) s.size)
theorem indexByte_lt (l : List UInt8) (c : UInt8) : indexByte l c < l.length := by
  induction l with
  | nil => simp [indexByte]
  | cons b l ih =>
    unfold indexByte
    split
    · simp only [List.length_cons]; omega
    · split
      · simp only [List.length_cons]; omega
      · simp only [List.length_cons]; omega
theorem cutLn_size (s : ByteArray) (h : 0 < s.size) : (cutLn s).2.size < s.size := by
  unfold cutLn
  have h1 := indexByte_lt s.data.toList 10
  have h2 : s.data.toList.length = s.size := Array.length_toList
  split
  · exact h
  · simp only [ByteArray.size_extract]
    omega
theorem cutLn_size1 (s : ByteArray) : (cutLn s).1.size ≤ s.size := by
  unfold cutLn
  split
  · exact Nat.le_refl _
  · simp only [ByteArray.size_extract]
    omega
section
variable {P : Program} {w0 w : World} {I J : List It}
theorem putObj_grown (w : World) (g : Nat) (o : Obj) : w.grownBy (w.putObj g o) (some g) := ⟨rfl, rfl, rfl, by simp, fun k _ hk => World.putObj_heap_other (fun e => hk (by rw [e]))⟩
/-- a block of the loop's book-keeping turns -/
theorem St.putRaw {g : Nat} {o o' : Obj} (H : St w0 w I) [U : Upd I (.raw g o) (.raw g o') J] : St w0 (w.putObj g o') J := by
  have hin : It.raw g o ∈ I := by
    obtain ⟨P, R, rfl, _⟩ := U.out
    simp
  have hh := H.all _ hin
  exact St.upd (x := .raw g o) (y := .raw g o') H rfl (putObj_grown w g o') ⟨hh.1, World.putObj_heap_same (It.lt (x := .raw g o) hh rfl)⟩ (fun _ h => .inl h)
theorem St.raw {g : Nat} {o : Obj} (H : St w0 w I) [h : Has I (.raw g o)] : w.heap[g]? = some o := (H.all _ h.mem).2
/-- a block of the loop's book-keeping is made -/
theorem St.newRaw (H : St w0 w I) (o : Obj) : St w0 (w.alloc o) (.raw w.heap.size o :: I) :=
  H.push ⟨rfl, rfl, rfl, by simp, fun k hk _ => Below.heap_alloc w _ k hk⟩ ⟨H.bel.size, World.alloc_heap_new w o⟩ (fun _ h => by cases h; exact Nat.le_refl _)
end
theorem sc_strL : (match Tryd.prog.underlying 9 with | some (.struct _) | some (.array _ _) | none => true | _ => false) = false := by kernel_rfl
theorem ixb_st {w0 w : World} {I : List It} (s : ByteArray) (H : St w0 w I) :
    Calls Tryd.prog 20 #[.string s, .int .u8 10] w (fun ed w' => ed = .returned (.int .i64 (indexByte s.data.toList 10)) ∧ St w0 w' I) :=
  (Lay.strings_IndexByte s 10 w).mono fun ed w' h => by
    obtain ⟨rfl, rfl⟩ := h
    exact ⟨rfl, H⟩
set_option maxRecDepth 100000 in
set_option maxHeartbeats 8000000 in
theorem lines1_st {w0 w : World} {τ : Type} (l gs N : Nat) (Ix : τ → List It) (Hv : ByteArray → τ → Prop) (Stop : World → Prop)
    (hN : N ≤ 4000000) (hY : ∀ (s : ByteArray) (t : τ) (W : World), s.size ≤ N → 0 < s.size → Hv s t → St w0 W (.bl gs 9 #[.string (cutLn s).2] :: Ix t) → ∃ fn tmps assign body, (Instr.yield l #[.string (cutLn s).1]).run Tryd.prog W = .ok (.round l fn tmps assign body) W ∧ RoundIn Fence.wide 0 Tryd.prog l fn tmps assign body W (fun e W' => (e = .returned (.bool true) ∧ ∃ t', Hv (cutLn s).2 t' ∧ St w0 W' (.bl gs 9 #[.string (cutLn s).2] :: Ix t')) ∨ (e = .returned (.bool false) ∧ Stop W')))
    (s : ByteArray) (t : τ) (hs : s.size ≤ N) (h0 : Hv s t) (H : St w0 w (.bl gs 9 #[.string s] :: Ix t)) :
    Calls Tryd.prog 19 #[.func (.yield l) #[] #[], .pointer (some ⟨gs, 0, none⟩)] w (fun ed W' => (∃ v, ed = .returned v) ∧ ((∃ t', Hv ⟨#[]⟩ t' ∧ St w0 W' (.bl gs 9 #[.string ⟨#[]⟩] :: Ix t')) ∨ Stop W')) := by
  have HY := Lib.hid hY
  replace hN := Lib.hid hN
  clear hY
  go_enter Tryd.func19, Tryd.ntmps19
  go_wp2
  go_loopw [3, 4] (fun s3 s4 wr => ∃ (s : ByteArray) (t : τ), s.size ≤ N ∧ Hid (Hv s t) ∧ St w0 wr (.bl gs 9 #[.string s] :: Ix t)) (fun _ _ wr => match wr.cell? ⟨gs, 0, none⟩ with | some (.string s) => s.size | _ => 0)
  case atStart => exact ⟨s, t, hs, Lib.hid h0, H⟩
  case round =>
    clear H h0 hs
    obtain ⟨s, t, hs, h0, H⟩ := hrel
    have hcell : wr.cell? ⟨gs, 0, none⟩ = some (.string s) := ((H.blk gs).cell 0).trans rfl
    rw [hcell]
    dsimp only
    have HSS := Lib.hid hs
    by_cases hp : 0 < s.size
    · have hp1 : (0 : Int) < (s.size : Int) := by omega
      have HY2 := Lib.hid (fun W => HY.out s t W hs hp h0.out)
      have hsz := cutLn_size s hp
      have hil := indexByte_lt s.data.toList 10
      have hig := indexByte_ge s.data.toList 10
      have hll : s.data.toList.length = s.size := Array.length_toList
      have hcut : cutLn s = if indexByte s.data.toList 10 < 0 then (s, ⟨#[]⟩) else (s.extract 0 ((indexByte s.data.toList 10).toNat + 1), s.extract ((indexByte s.data.toList 10).toNat + 1) s.size) := rfl
      have CI := Lib.hid (fun W J (H : St w0 W J) => ixb_st (w0 := w0) (w := W) (I := J) s H)
      generalize indexByte s.data.toList 10 = i at *
      go_upto_region 3 with (first | (go_at_call 20; (with_reducible refine (CI.out _ _ H).mono ?_); clear H; rintro ed wy ⟨rfl, H⟩) | (first | ((with_reducible refine here_load ?_); first | refine ldR H rfl _ _ rfl rfl (by kernel_rfl) ?_ | refine ldS H rfl _ _ rfl rfl (by rfl) ?_ | refine ldSG H (by rfl) _ _ rfl rfl (by rfl) ?_ | refine ldRG H (by rfl) _ _ rfl rfl (by kernel_rfl) ?_) | ((with_reducible refine here_store ?_); first | (refine stR H rfl _ _ _ rfl rfl rfl (by rfl) (by rfl) (by kernel_rfl) ?_; clear H; intro wx H) | (refine stS H rfl _ _ _ rfl rfl _ rfl (by rfl) (by rfl) (by rfl) ?_; clear H; intro wx H))))
      by_cases h0i : i < 0
      · rw [if_pos h0i] at hcut
        rw [hcut] at HY2 hsz
        have HSZ := Lib.hid hsz
        clear hsz hcut
        go_upto_region 6 with (first | ((with_reducible refine here_load ?_); first | refine ldR H rfl _ _ rfl rfl (by kernel_rfl) ?_ | refine ldS H rfl _ _ rfl rfl (by rfl) ?_ | refine ldSG H (by rfl) _ _ rfl rfl (by rfl) ?_ | refine ldRG H (by rfl) _ _ rfl rfl (by kernel_rfl) ?_) | ((with_reducible refine here_store ?_); first | (refine stR H rfl _ _ _ rfl rfl rfl (by rfl) (by rfl) (by kernel_rfl) ?_; clear H; intro wx H) | (refine stS H rfl _ _ _ rfl rfl _ rfl (by rfl) (by rfl) (by rfl) ?_; clear H; intro wx H)))
        (try simp only [Act.put])
        obtain ⟨fn, tmps, assign, body, hy, hR⟩ := HY2.out _ H
        clear H
        refine (wpIn_wide (n := 1)).1 ?_
        refine wpIn_region_lit ?_
        gi_wp2
        refine hR.mono ?_
        clear hR hy
        rintro ed W3 (⟨rfl, t', ht', H⟩ | ⟨rfl, hst⟩)
        · gi_wp2
          go_wp2
          go_roundw
          case rel => exact ⟨_, t', by have := HSZ.out; have := HSS.out; omega, Lib.hid ht', H⟩
          case measure =>
            rw [show W3.cell? ⟨gs, 0, none⟩ = _ from ((H.blk gs).cell 0).trans rfl]
            exact HSZ.out
        · gi_wp2
          go_wp2
          refine bodyPost_ret (results_none rfl _ _ _) rfl ?_
          exact ⟨⟨_, rfl⟩, .inr hst⟩
      · rw [if_neg h0i] at hcut
        obtain ⟨k, rfl⟩ : ∃ k : Nat, i = (k : Int) := ⟨i.toNat, by omega⟩
        have hk : k < s.size := by omega
        rw [Int.toNat_natCast] at hcut
        rw [hcut] at HY2 hsz
        have HSZ := Lib.hid hsz
        have HNN := hN.out
        have wk : IntKind.i64.wrap ((k : Int) + 1) = (k : Int) + 1 := IntWalk.i64_in _ (by omega)
        have k1 : (k : Int) + 1 ≤ (s.size : Int) := by omega
        have k2 : (0 : Int) ≤ (k : Int) + 1 := by omega
        clear hsz hcut
        go_upto_region 4 with (first | ((with_reducible refine here_load ?_); first | refine ldR H rfl _ _ rfl rfl (by kernel_rfl) ?_ | refine ldS H rfl _ _ rfl rfl (by rfl) ?_ | refine ldSG H (by rfl) _ _ rfl rfl (by rfl) ?_ | refine ldRG H (by rfl) _ _ rfl rfl (by kernel_rfl) ?_) | ((with_reducible refine here_store ?_); first | (refine stR H rfl _ _ _ rfl rfl rfl (by rfl) (by rfl) (by kernel_rfl) ?_; clear H; intro wx H) | (refine stS H rfl _ _ _ rfl rfl _ rfl (by rfl) (by rfl) (by rfl) ?_; clear H; intro wx H)))
        refine startT (by kernel_rfl) ?_
        have HS := trivial
        replace H := H.drew
        refine takeMove (i := 1) rfl rfl _ (by rfl) (by kernel_rfl) (by kernel_rfl) (by kernel_rfl) (fun _ _ _ _ h => h) (by rfl) HS ?_
        (try simp only [Act.put, List.setIfInBounds_toArray, List.set_cons_zero, List.set_cons_succ])
        refine takeV (i := 2) (v := ?_) rfl (by kernel_rfl) (by kernel_rfl) (by kernel_rfl) (fun _ _ _ h => h) (by rfl) ?_ HS ?_
        rotate_left
        · (intro W hW; go_simp; try with_reducible rfl)
        (try simp only [Act.put, List.setIfInBounds_toArray, List.set_cons_zero, List.set_cons_succ])
        refine takeMove (i := 5) rfl rfl _ (by rfl) (by kernel_rfl) (by kernel_rfl) (by kernel_rfl) (fun _ _ _ _ h => h) (by rfl) HS ?_
        (try simp only [Act.put, List.setIfInBounds_toArray, List.set_cons_zero, List.set_cons_succ])
        refine takeV (i := 6) (v := ?_) rfl (by kernel_rfl) (by kernel_rfl) (by kernel_rfl) (fun _ _ _ h => h) (by rfl) ?_ HS ?_
        rotate_left
        · (intro W hW; go_simp; try with_reducible rfl)
        (try simp only [Act.put, List.setIfInBounds_toArray, List.set_cons_zero, List.set_cons_succ])
        refine branchH [0, 4] (by kernel_rfl) (by kernel_rfl) (AllStep.cons ?_ (AllStep.cons ?_ AllStep.nil))
        · refine stepH_do (i := 0) rfl (by rfl) ?_
          refine wp_load1_st H 9 _ rfl rfl sc_strL (by rfl) ?_
          refine ⟨trivial, ?_⟩
          (try simp only [Act.put, List.setIfInBounds_toArray, List.set_cons_zero, List.set_cons_succ])
          refine takeV (i := 3) (v := ?_) rfl (by kernel_rfl) (by kernel_rfl) (by kernel_rfl) (fun _ _ _ h => h) (by rfl) ?_ HS ?_
          rotate_left
          · (intro W hW; go_simp; try with_reducible rfl)
          (try simp only [Act.put, List.setIfInBounds_toArray, List.set_cons_zero, List.set_cons_succ])
          refine takeAssign (i := 8) rfl rfl _ (by rfl) (by kernel_rfl) (by kernel_rfl) (by kernel_rfl) (fun _ _ _ _ h => h) (by rfl) HS ?_
          (try simp only [Act.put, List.setIfInBounds_toArray, List.set_cons_zero, List.set_cons_succ])
          refine branchH [4] (by kernel_rfl) (by kernel_rfl) (AllStep.cons ?_ AllStep.nil)
          refine stepH_do (i := 4) rfl (by rfl) ?_
          refine wp_load1_st H 9 _ rfl rfl sc_strL (by rfl) ?_
          refine ⟨trivial, ?_⟩
          (try simp only [Act.put, List.setIfInBounds_toArray, List.set_cons_zero, List.set_cons_succ])
          refine takeV (i := 7) (v := ?_) rfl (by kernel_rfl) (by kernel_rfl) (by kernel_rfl) (fun _ _ _ h => h) (by rfl) ?_ HS ?_
          rotate_left
          · (intro W hW; go_simp; try with_reducible rfl)
          (try simp only [Act.put, List.setIfInBounds_toArray, List.set_cons_zero, List.set_cons_succ])
          refine branchH [9] (by kernel_rfl) (by kernel_rfl) (AllStep.cons ?_ AllStep.nil)
          refine stepH_do (i := 9) rfl (by rfl) ?_
          refine wp_store1_st H 9 _ _ rfl rfl (.string (s.extract (k + 1) s.size)) rfl (by rfl) _ rfl (ScTy.s (t := 9)) (by rfl) (by rfl) ?_
          clear H
          intro wx H
          refine ⟨trivial, ?_⟩
          (try simp only [Act.put])
          refine doneH (by kernel_rfl) ?_
          go_upto_region 6 with fail
          (try simp only [Act.put])
          obtain ⟨fn, tmps, assign, body, hy, hR⟩ := HY2.out _ H
          clear H
          refine (wpIn_wide (n := 1)).1 ?_
          refine wpIn_region_lit ?_
          gi_wp2
          refine hR.mono ?_
          clear hR hy
          rintro ed W3 (⟨rfl, t', ht', H⟩ | ⟨rfl, hst⟩)
          · gi_wp2
            go_wp2
            go_roundw
            case rel => exact ⟨_, t', by have := HSZ.out; have := HSS.out; omega, Lib.hid ht', H⟩
            case measure =>
              rw [show W3.cell? ⟨gs, 0, none⟩ = _ from ((H.blk gs).cell 0).trans rfl]
              exact HSZ.out
          · gi_wp2
            go_wp2
            refine bodyPost_ret (results_none rfl _ _ _) rfl ?_
            exact ⟨⟨_, rfl⟩, .inr hst⟩
        · refine stepH_do (i := 4) rfl (by rfl) ?_
          refine wp_load1_st H 9 _ rfl rfl sc_strL (by rfl) ?_
          refine ⟨trivial, ?_⟩
          (try simp only [Act.put, List.setIfInBounds_toArray, List.set_cons_zero, List.set_cons_succ])
          refine takeV (i := 7) (v := ?_) rfl (by kernel_rfl) (by kernel_rfl) (by kernel_rfl) (fun _ _ _ h => h) (by rfl) ?_ HS ?_
          rotate_left
          · (intro W hW; go_simp; try with_reducible rfl)
          (try simp only [Act.put, List.setIfInBounds_toArray, List.set_cons_zero, List.set_cons_succ])
          refine branchH [0] (by kernel_rfl) (by kernel_rfl) (AllStep.cons ?_ AllStep.nil)
          refine stepH_do (i := 0) rfl (by rfl) ?_
          refine wp_load1_st H 9 _ rfl rfl sc_strL (by rfl) ?_
          refine ⟨trivial, ?_⟩
          (try simp only [Act.put, List.setIfInBounds_toArray, List.set_cons_zero, List.set_cons_succ])
          refine takeV (i := 3) (v := ?_) rfl (by kernel_rfl) (by kernel_rfl) (by kernel_rfl) (fun _ _ _ h => h) (by rfl) ?_ HS ?_
          rotate_left
          · (intro W hW; go_simp; try with_reducible rfl)
          (try simp only [Act.put, List.setIfInBounds_toArray, List.set_cons_zero, List.set_cons_succ])
          refine takeAssign (i := 8) rfl rfl _ (by rfl) (by kernel_rfl) (by kernel_rfl) (by kernel_rfl) (fun _ _ _ _ h => h) (by rfl) HS ?_
          (try simp only [Act.put, List.setIfInBounds_toArray, List.set_cons_zero, List.set_cons_succ])
          refine branchH [9] (by kernel_rfl) (by kernel_rfl) (AllStep.cons ?_ AllStep.nil)
          refine stepH_do (i := 9) rfl (by rfl) ?_
          refine wp_store1_st H 9 _ _ rfl rfl (.string (s.extract (k + 1) s.size)) rfl (by rfl) _ rfl (ScTy.s (t := 9)) (by rfl) (by rfl) ?_
          clear H
          intro wx H
          refine ⟨trivial, ?_⟩
          (try simp only [Act.put])
          refine doneH (by kernel_rfl) ?_
          go_upto_region 6 with fail
          (try simp only [Act.put])
          obtain ⟨fn, tmps, assign, body, hy, hR⟩ := HY2.out _ H
          clear H
          refine (wpIn_wide (n := 1)).1 ?_
          refine wpIn_region_lit ?_
          gi_wp2
          refine hR.mono ?_
          clear hR hy
          rintro ed W3 (⟨rfl, t', ht', H⟩ | ⟨rfl, hst⟩)
          · gi_wp2
            go_wp2
            go_roundw
            case rel => exact ⟨_, t', by have := HSZ.out; have := HSS.out; omega, Lib.hid ht', H⟩
            case measure =>
              rw [show W3.cell? ⟨gs, 0, none⟩ = _ from ((H.blk gs).cell 0).trans rfl]
              exact HSZ.out
          · gi_wp2
            go_wp2
            refine bodyPost_ret (results_none rfl _ _ _) rfl ?_
            exact ⟨⟨_, rfl⟩, .inr hst⟩
    · have hp1 : ¬ (0 : Int) < (s.size : Int) := by omega
      have hs0 : s = ⟨#[]⟩ := by
        cases s with
        | mk d =>
          have h : d.size = 0 := by have : d.size = (ByteArray.mk d).size := rfl; omega
          rw [Array.eq_empty_of_size_eq_zero h]
      subst hs0
      clear hp
      go_wp2_with (first | ((with_reducible refine here_load ?_); first | refine ldR H rfl _ _ rfl rfl (by kernel_rfl) ?_ | refine ldS H rfl _ _ rfl rfl (by rfl) ?_ | refine ldSG H (by rfl) _ _ rfl rfl (by rfl) ?_ | refine ldRG H (by rfl) _ _ rfl rfl (by kernel_rfl) ?_) | ((with_reducible refine here_store ?_); first | (refine stR H rfl _ _ _ rfl rfl rfl (by rfl) (by rfl) (by kernel_rfl) ?_; clear H; intro wx H) | (refine stS H rfl _ _ _ rfl rfl _ rfl (by rfl) (by rfl) (by rfl) ?_; clear H; intro wx H)))
      refine bodyPost_end (results_none rfl _ _ _) rfl ?_
      exact ⟨⟨_, rfl⟩, .inl ⟨t, h0.out, H⟩⟩


end Go.Proofs.YtjakmpkfniangaaDoor
