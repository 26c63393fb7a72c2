/- Acts of raw numbers, in a row. -/
import Derived.Test.YtjakmpkfniangaaDoorFeat
import Derived.Test.YtjakmpkfniangaaDoorLnR
namespace Go.Proofs.YtjakmpkfniangaaDoor
open Go.RowKit

set_option linter.unusedVariables false
/-- acts that may be -/
def GoodActs (al : List (List Int)) : Prop := ∀ a ∈ al, GoodAct a
theorem GoodActs.good {al : List (List Int)} (h : GoodActs al) : Good al := fun a ha => ⟨(h a ha).1, (h a ha).2.1⟩
theorem GoodActs.acts {al : List (List Int)} (h : GoodActs al) : Acts al := fun a ha => ⟨(h a ha).1, (h a ha).2.2⟩
theorem GoodActs.snoc {al : List (List Int)} (h : GoodActs al) {a : List Int} (ha : GoodAct a) : GoodActs (al ++ [a]) := fun x hx => by
  rcases List.mem_append.1 hx with hx | hx
  · exact h x hx
  · rw [List.mem_singleton.1 hx]; exact ha
def FeatsPost (w0 : World) (I : List It) (N : Nat) (ed : Ending) (w' : World) : Prop := ∃ A c al, GoodActs al ∧ al.length ≤ c ∧ al.length ≤ N ∧ ed = .returned (.slice A al.length c) ∧ St w0 w' (actsIt A al :: I)
theorem featAt {w : World} {B n k : Nat} {A : Option Addr} {rows : List (List Int)} (hr : Reads w B 5 A n (rowCells rows)) (hl : rows.length = n) (hk : k < n) (h : ∀ r ∈ rows, r.length = 5 ∧ ∀ z ∈ r, (Lit.int .i64 z).wf = true) :
    ∃ b off x0 x1 x2 x3 x4, A = some ⟨b, off, none⟩ ∧ b < B ∧ Is64 x0 ∧ Is64 x1 ∧ Is64 x2 ∧ Is64 x3 ∧ Is64 x4 ∧ w.cell? ⟨b, off + k * 5, none⟩ = some (.int .i64 x0) ∧ w.cell? ⟨b, off + k * 5 + 1, none⟩ = some (.int .i64 x1) ∧ w.cell? ⟨b, off + k * 5 + 2, none⟩ = some (.int .i64 x2) ∧ w.cell? ⟨b, off + k * 5 + 3, none⟩ = some (.int .i64 x3) ∧ w.cell? ⟨b, off + k * 5 + 4, none⟩ = some (.int .i64 x4) := by
  have hkl : k < rows.length := by omega
  have hr1 : rows[k]? = some rows[k] := List.getElem?_eq_getElem hkl
  obtain ⟨h5, hz⟩ := h rows[k] (List.getElem_mem _)
  obtain ⟨b, off, h1, h2, h3⟩ := rowAtA hr hl (fun r hr => (h r hr).1) (by omega) hk hr1
  generalize rows[k] = r at *
  match r, h5 with
  | [x0, x1, x2, x3, x4], _ =>
    have g := fun z hz' => is64_of_wf (hz z hz')
    exact ⟨b, off, x0, x1, x2, x3, x4, h1, h2, g _ (by simp), g _ (by simp), g _ (by simp), g _ (by simp), g _ (by simp), h3 0 _ rfl, h3 1 _ rfl, h3 2 _ rfl, h3 3 _ rfl, h3 4 _ rfl⟩
set_option maxRecDepth 100000 in
set_option maxHeartbeats 8000000 in
theorem feats_st {w0 : World} {I : List It} (A : Option Addr) (n c N : Nat) (rows : List (List Int)) (h : IsRows 5 40 w0 A n c rows) (hN : N ≤ 200) (H : St w0 w0 I) :
    Calls Tryd.prog 8 #[.slice A n c, .int .i64 N] w0 (FeatsPost w0 I N) := by
  obtain ⟨hl, hnc, hcb, hr, hs⟩ := h
  have HL := Lib.hid hl
  have HS := Lib.hid hs
  have HRD := Lib.hid (show Reads w0 w0.heap.size 5 A n (rowCells rows) from hr)
  have HN := Lib.hid (show N ≤ 200 from hN)
  have CA := Lib.hid (fun W J k a b c d h0 h1 h2 h3 h4 (H : St w0 W J) => act_st0 (w0 := w0) (w := W) (I := J) k a b c d h0 h1 h2 h3 h4 H)
  have HF := Lib.hid (fun W A c al (h1 : GoodActs al) (h2 : al.length ≤ c) (h3 : al.length ≤ N) (h : St w0 W (actsIt A al :: I)) => (show FeatsPost w0 I N (.returned (.slice A al.length c)) W from ⟨A, c, al, h1, h2, h3, rfl, h⟩))
  generalize FeatsPost w0 I N = POST at *
  replace H := H.old hr
  clear hl hr hs hnc hcb
  go_enter Tryd.func8, Tryd.ntmps8
  go_upto_region 2 with fail
  go_wp2_with fail
  replace H := H.nilOwn 41 11
  go_loopw [5, 6] (fun s5 s6 wr => ∃ (k : Nat) (A5 : Option Addr) (c5 : Nat) (al : List (List Int)), k ≤ n ∧ k ≤ N ∧ k ≤ c5 ∧ Hid (GoodActs al ∧ al.length = k) ∧ s6 = .int .i64 k ∧ s5 = .slice A5 k c5 ∧ St w0 wr (.ow 41 11 (.slice A5 k c5) k (actsCells al) :: .rd 5 A n (rowCells rows) :: I)) (fun _ s6 _ => n - (RowKit.intOf s6).toNat)
  case atStart => exact ⟨0, none, 0, [], by omega, by omega, by omega, Lib.hid ⟨fun a ha => (by cases ha), rfl⟩, rfl, rfl, H⟩
  case round =>
    clear H
    obtain ⟨k, A5, c5, al, hkn, hkN, hkc, hal, rfl, rfl, H⟩ := hrel
    have hN2 := HN.out
    have k0 : (0 : Int) ≤ (k : Int) := by omega
    have wk : IntKind.i64.wrap ((k : Int) + 1) = (k : Int) + 1 := IntWalk.i64_in _ (by omega)
    by_cases hlt : k < n
    · have k1 : (k : Int) < (n : Int) := by omega
      by_cases hlm : k < N
      · have k2 : (k : Int) < (N : Int) := by omega
        obtain ⟨b8, o8, x0, x1, x2, x3, x4, hA8, hb8, i0, i1, i2, i3, i4, q0, q1, q2, q3, q4⟩ := featAt (H.get (.rd 5 A n (rowCells rows))) HL.out hlt HS.out
        subst hA8
        have HI := Lib.hid (And.intro i0 (And.intro i1 (And.intro i2 (And.intro i3 i4))))
        have HK := Lib.hid (And.intro hkn (And.intro hkN (And.intro hlt hlm)))
        clear i0 i1 i2 i3 i4 hb8 hkn hkN hlt hlm
        go_upto_region 6 with (first | (go_at_call 17; (with_reducible refine (CA.out _ _ _ _ _ _ _ HI.out.1 HI.out.2.1 HI.out.2.2.1 HI.out.2.2.2.1 HI.out.2.2.2.2 H).mono ?_); clear H; rintro ed wx ⟨vs, hg, rfl, H⟩) | ((with_reducible refine here_alloc ?_); refine wpList_alloc_st H rfl 41 rfl _ act_zero ?_; clear H; intro g7 wx H) | ((with_reducible refine here_store ?_); refine stR H rfl _ _ _ rfl rfl rfl ((iCells_size vs).trans hg.1) (by rw [iCells_size, hg.1]; rfl) (iCells_one _) ?_; clear H; intro wx H))
        have HG := Lib.hid hg
        clear hg
        have hx1 : (iCells vs).size = 11 := (iCells_size vs).trans HG.out.1
        go_wp2_with (first | ((with_reducible refine here_load ?_); first | refine ldR H rfl _ _ rfl rfl hx1 ?_ | refine ldRG H (by rfl) _ _ rfl rfl hx1 ?_) | ((with_reducible refine here_buildSlice ?_); refine wpList_buildSlice1_st H rfl 22 _ rfl 41 Tryd.underlying22 (iCells vs) rfl _ (by rw [hx1]; exact act_info2) (by rw [hx1]; rfl) (by rw [hx1]; rfl) ?_; clear H; intro gb wx H) | ((with_reducible refine here_call ?_); refine wpList_appendB_st (v := .slice A5 k c5) H rfl _ _ 22 rfl rfl rfl Tryd.underlying22 _ _ act_info (by rfl) (by rfl) hx1 (iCells_one _) (by simp only [maxLen]; omega) (by omega) ?_; clear H; intro A6 c6 wx hc16 hc26 H))
        have HAL2 := Lib.hid (show GoodActs (al ++ [vs]) ∧ (al ++ [vs]).length = k + 1 from ⟨hal.out.1.snoc HG.out, by rw [List.length_append, hal.out.2]; rfl⟩)
        rw [actsCells_snoc] at H
        go_roundw
        case rel => exact ⟨k + 1, A6, c6, al ++ [vs], by have := HK.out; omega, by have := HK.out; omega, by omega, HAL2, by go_num, rfl, H.subm _⟩
        case measure => have := HK.out; simp [RowKit.intOf] <;> omega
      · obtain rfl : k = N := by omega
        have k2 : ¬ (k : Int) < (k : Int) := by omega
        clear hlt hlm hkn
        go_wp2
        replace H : St w0 wr (.ow 41 11 (.slice A5 k c5) k (actsCells al) :: I) := H.subm _
        replace H := H.freeze (e := 41) (A := A5) (n := k) (c := c5)
        have hfin := HF.out wr A5 c5 al hal.out.1 (by rw [hal.out.2]; exact hkc) (by rw [hal.out.2]; omega) (by unfold actsIt; rw [hal.out.2]; exact H)
        rw [hal.out.2] at hfin
        exact hfin
    · obtain rfl : k = n := by omega
      have k1 : ¬ (k : Int) < (k : Int) := by omega
      clear hlt hkn
      go_wp2
      replace H : St w0 wr (.ow 41 11 (.slice A5 k c5) k (actsCells al) :: I) := H.subm _
      replace H := H.freeze (e := 41) (A := A5) (n := k) (c := c5)
      have hfin := HF.out wr A5 c5 al hal.out.1 (by rw [hal.out.2]; exact hkc) (by rw [hal.out.2]; omega) (by unfold actsIt; rw [hal.out.2]; exact H)
      rw [hal.out.2] at hfin
      exact hfin


end Go.Proofs.YtjakmpkfniangaaDoor
