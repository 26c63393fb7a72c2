/- SumSwap: the walk. -/
import Derived.Test.YtogeeaplepiijaaPick
import Derived.Test.YtogeeaplepiijaaSome
import Derived.Test.YtogeeaplepiijaaSum
import Derived.Test.YtogeeaplepiijaaSumLaw
import Derived.Test.YtogeeaplepiijaaView
import Derived.Deep.QuietTactic
import Derived.BigQuiet
namespace Go.Proofs.Ytogeeaplepiijaa
open Go.RowKit

theorem below_drewN {B : Nat} {a w : World} (h : Below B a w) (n : Nat) : Below B a (w.drewN n) := ⟨h.os, h.tape, h.output, h.size, h.block⟩

set_option maxHeartbeats 400000 in
theorem sumSwap_walk (A : Option Addr) (n c : Nat) (zs : List Int) (a1 : Int) (w : World) (h0 : IsNums .u8 1 w A n c zs) (h1 : Is64 a1) :
    Calls Try.prog 5 #[.slice A n c, .int .i64 a1] w fun e w' => e = .returned (.bool true) ∧ Below w.heap.size w w' := by
  obtain ⟨hl, hnc, hcb, hr, hwf⟩ := h0
  obtain ⟨h11, h12⟩ := h1
  go_enter Try.func5, Try.ntmps5
  go_wp2_with fail
  refine (some_any A n c _ _ zs _ hr hnc (by omega) (by omega) (by omega)).mono ?_
  rintro e w1 ⟨v, rfl, ho, hb⟩
  have hzs : ∀ z ∈ zs.take 500, 0 ≤ z ∧ z ≤ 255 := fun z hz => u8_of_wf (hwf z (List.mem_of_mem_take hz))
  have hln : (zs.take 500).length = min n 500 := by simp; omega
  have hk5 : min n 500 ≤ 500 := by omega
  have e5 : (500 : Int).toNat = 500 := rfl
  rw [e5] at ho
  clear e5
  generalize zs.take 500 = ys at *
  generalize min n 500 = k at *
  clear hwf hr hl hnc
  by_cases hk : k < 2
  · obtain ⟨A', c', rfl, _, _⟩ := own_shape ho
    clear ho
    have hlt : (k : Int) < 2 := by omega
    go_wp2_with fail
    have o1 := new_row w1 5 [.int .u8 1, .int .u8 2] _ rfl (by simp [maxLen])
    refine (sum_any _ 2 2 _ [1, 2] _ (Reads.of_own o1) (by simp) (by omega)).mono ?_
    rintro e w2 ⟨rfl, rfl⟩
    go_wp2_with fail
    have o2 := new_row (w1.alloc (.cells #[.int .u8 1, .int .u8 2] 5)) 5 [.int .u8 2, .int .u8 1] _ rfl (by simp [maxLen])
    rw [World.size_alloc] at o2
    refine (sum_any _ 2 2 _ [2, 1] _ (Reads.of_own o2) (by simp) (by omega)).mono ?_
    rintro e w2 ⟨rfl, rfl⟩
    have h1 : (sumOf [1, 2] != sumOf [2, 1]) = true := by decide
    have hb2 := (hb.alloc (Nat.le_trans (Nat.le_refl _) hb.size) (.cells #[.int .u8 1, .int .u8 2] 5)).alloc (Nat.le_trans hb.size (by simp)) (.cells #[.int .u8 2, .int .u8 1] 5)
    clear o1 o2
    go_wp2
    go_ret
    exact ⟨rfl, hb2⟩
  · obtain ⟨g, c', rfl, hc', _, hgb, hgs⟩ := own_head ho (by omega)
    have px := pick_lo a1 (k - 1) (by omega)
    have px' := pick_hi a1 (k - 1) (by omega)
    have hgk : ¬ (k : Int) < 2 := by omega
    go_wp2_with fail
    refine (picked_any _ _ _ (by omega) (by omega) (by omega) (by omega)).mono ?_
    rintro e w2 ⟨rfl, rfl⟩
    obtain ⟨i, hi⟩ := Int.eq_ofNat_of_zero_le px
    rw [hi] at px' ⊢
    clear hi px
    go_wp2_with fail
    refine (some_any (some ⟨g, 0, none⟩) k c' _ _ ys _ (Reads.of_own ho) hc' (by omega) (by omega) (by omega)).mono ?_
    rintro e w2 ⟨v2, rfl, o2, b2⟩
    have e1 : min k (500 : Int).toNat = k := by have : (500 : Int).toNat = 500 := rfl; omega
    have e2 : ys.take (500 : Int).toNat = ys := List.take_of_length_le (by have : (500 : Int).toNat = 500 := rfl; omega)
    rw [e1, e2] at o2
    clear e1 e2
    obtain ⟨g2, c2, rfl, hc2, _, hg2, _⟩ := own_head o2 (by omega)
    have o1 := own_below ho b2 (Nat.le_refl _)
    have hb2 : Below w.heap.size w w2 := hb.trans (b2.mono hb.size)
    have at1 : ∀ (W : World) (B G C j : Nat), W.ownsRow B 5 1 (.slice (some ⟨G, 0, none⟩) k C) k (ys.map (Value.int .u8)) → j < k → W.cell? ⟨G, j, none⟩ = some (.int .u8 (ys.getD j 0)) := by
      intro W B G C j h hj
      rw [h.cellAt j (by omega), List.getElem?_map, List.getElem?_eq_getElem (show j < ys.length by omega)]; simp [List.getD, List.getElem?_eq_getElem (show j < ys.length by omega)]
    have hne : g ≠ g2 := by omega
    have q1 := at1 _ _ _ _ i o1 (by omega)
    have q2 := at1 _ _ _ _ (i + 1) o1 (by omega)
    have q3 := at1 _ _ _ _ i o2 (by omega)
    have q4 := at1 _ _ _ _ (i + 1) o2 (by omega)
    have f3 := o2.frozenAt i
    have s1 := (o2.stored i (.int .u8 (ys.getD (i + 1) 0))).1
    have f4 := s1.frozenAt (i + 1)
    have s2 := (s1.stored (i + 1) (.int .u8 (ys.getD i 0))).1
    have q1' : (w2.setCell ⟨g2, i, none⟩ (.int .u8 (ys.getD (i + 1) 0))).cell? ⟨g, i, none⟩ = some (.int .u8 (ys.getD i 0)) := by
      rw [World.cell?_setCell_other _ _ _ _ (by intro h; injection h; omega)]; exact q1
    have q4' : (w2.setCell ⟨g2, i, none⟩ (.int .u8 (ys.getD (i + 1) 0))).cell? ⟨g2, i + 1, none⟩ = some (.int .u8 (ys.getD (i + 1) 0)) := by
      rw [World.cell?_setCell_other _ _ _ _ (by intro h; injection h; omega)]; exact q4
    have b3 : Below w.heap.size w ((w2.setCell ⟨g2, i, none⟩ (.int .u8 (ys.getD (i + 1) 0))).setCell ⟨g2, i + 1, none⟩ (.int .u8 (ys.getD i 0))) :=
      (hb2.setCell (by have := hb.size; exact (by omega : w.heap.size ≤ g2)) _).setCell (by have := hb.size; exact (by omega : w.heap.size ≤ g2)) _
    have hset : ((ys.map (Value.int .u8)).set i (.int .u8 (ys.getD (i + 1) 0))).set (i + 1) (.int .u8 (ys.getD i 0)) = ((ys.set i (ys.getD (i + 1) 0)).set (i + 1) (ys.getD i 0)).map (Value.int .u8) := by rw [List.map_set, List.map_set]
    rw [hset] at s2
    have o1' : ((w2.setCell ⟨g2, i, none⟩ (.int .u8 (ys.getD (i + 1) 0))).setCell ⟨g2, i + 1, none⟩ (.int .u8 (ys.getD i 0))).ownsRow w.heap.size 5 1 (.slice (some ⟨g, 0, none⟩) k c') k (ys.map (Value.int .u8)) := by
      exact ownsRow_setCell_other (ownsRow_setCell_other o1 (a := ⟨g2, i, none⟩) (by simp [Value.ownBlock]; exact hne) _) (a := ⟨g2, i + 1, none⟩) (by simp [Value.ownBlock]; exact hne) _
    have hsw := sumOf_swap ys i (by omega) hzs
    have hzs2 : ∀ z ∈ (ys.set i (ys.getD (i + 1) 0)).set (i + 1) (ys.getD i 0), 0 ≤ z ∧ z ≤ 255 := by
      have m1 : ys.getD i 0 ∈ ys := by rw [List.getD, List.getElem?_eq_getElem (show i < ys.length by omega)]; simp
      have m2 : ys.getD (i + 1) 0 ∈ ys := by rw [List.getD, List.getElem?_eq_getElem (show i + 1 < ys.length by omega)]; simp
      intro z hz
      rcases List.mem_or_eq_of_mem_set hz with h | rfl
      · rcases List.mem_or_eq_of_mem_set h with h | rfl
        · exact hzs z h
        · exact hzs _ m2
      · exact hzs _ m1
    have C1 := Lib.hid (sum_any _ k c' _ ys _ (Reads.of_own o1') hzs (by omega))
    have C2 := Lib.hid (sum_any _ k c2 _ ((ys.set i (ys.getD (i + 1) 0)).set (i + 1) (ys.getD i 0)) _ (Reads.of_own s2) hzs2 (by omega))
    have r1 := at1 _ _ _ _ i o1' (by omega)
    have r2 := at1 _ _ _ _ (i + 1) o1' (by omega)
    clear o1 o1' o2 s1 s2 at1 q1 q4 hset hb hb2 ho hzs hzs2 b2
    generalize sumOf ys = u1 at *
    generalize sumOf ((ys.set i (ys.getD (i + 1) 0)).set (i + 1) (ys.getD i 0)) = u2 at *
    generalize ys.getD i 0 = y1 at *
    generalize ys.getD (i + 1) 0 = y2 at *
    have hfin : ((u1 == u2) == (y1 == y2)) = true := by
      by_cases h : y1 = y2
      · rw [beq_iff_eq.2 h, beq_iff_eq.2 (hsw.2 h)]; rfl
      · rw [beq_eq_false_iff_ne.2 h, beq_eq_false_iff_ne.2 (fun h' => h (hsw.1 h'))]; rfl
    have HF := Lib.hid hfin
    clear hfin hsw
    go_wp2_with fail
    refine C1.out.mono ?_
    rintro e w3 ⟨rfl, rfl⟩
    go_wp2_with fail
    refine C2.out.mono ?_
    rintro e w3 ⟨rfl, rfl⟩
    go_wp2_with fail
    go_quiet (fail)
    go_wp2
    go_ret
    exact ⟨ret_true HF.out, below_drewN b3 _⟩

end Go.Proofs.Ytogeeaplepiijaa
