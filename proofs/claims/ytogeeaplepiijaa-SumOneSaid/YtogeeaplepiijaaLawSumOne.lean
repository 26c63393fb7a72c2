/- SumOne: the walk. -/
import Derived.Test.YtogeeaplepiijaaPick
import Derived.Test.YtogeeaplepiijaaEv
import Derived.Test.YtogeeaplepiijaaSome
import Derived.Test.YtogeeaplepiijaaSum
import Derived.Test.YtogeeaplepiijaaSumLaw
import Derived.Test.YtogeeaplepiijaaView
import Derived.StillTailTactics
namespace Go.Proofs.Ytogeeaplepiijaa
open Go.RowKit

set_option maxHeartbeats 1000000 in
theorem sumOne_walk (A : Option Addr) (n c : Nat) (zs : List Int) (a1 a2 : Int) (w : World) (h0 : IsNums .u8 1 w A n c zs) (h1 : Is64 a1) (h2 : Is64 a2) :
    Calls Try.prog 4 #[.slice A n c, .int .i64 a1, .int .i64 a2] w fun e w' => e = .returned (.bool true) ∧ Below w.heap.size w w' := by
  obtain ⟨hl, hnc, hcb, hr, hwf⟩ := h0
  obtain ⟨h11, h12⟩ := h1
  obtain ⟨h21, h22⟩ := h2
  go_enter Try.func4, Try.ntmps4
  go_wp2_with fail
  refine (some_any A n c _ _ zs _ hr hnc (by omega) (by omega) (by omega)).mono ?_
  rintro e w1 ⟨v, rfl, ho, hb⟩
  have hzs : ∀ z ∈ zs.take 500, 0 ≤ z ∧ z ≤ 255 := fun z hz => u8_of_wf (hwf z (List.mem_of_mem_take hz))
  have hln : (zs.take 500).length = min n 500 := by simp; omega
  have hk5 : min n 500 ≤ 500 := by omega
  have e5 : (500 : Int).toNat = 500 := rfl
  rw [e5] at ho
  clear e5
  generalize zs.take 500 = ys at *
  generalize min n 500 = k at *
  clear hwf hr hl hnc
  by_cases hk : k = 0
  · subst hk
    obtain ⟨A', c', rfl, _, _⟩ := own_shape ho
    have hy : ys = [] := List.eq_nil_of_length_eq_zero hln
    subst hy
    go_wp2_with fail
    refine (sum_any A' 0 c' _ [] _ (Reads.of_own ho) (by simp) (by omega)).mono ?_
    rintro e w2 ⟨rfl, rfl⟩
    have h1 : (sumOf [] == 1) = true := by decide
    clear ho
    go_wp2
    go_ret
    exact ⟨rfl, hb⟩
  · obtain ⟨g, c', rfl, hc', _, hgb, hgs⟩ := own_head ho (by omega)
    have px := pick_lo a1 k (by omega)
    have px' := pick_hi a1 k (by omega)
    have py := pick_lo a2 255 (by omega)
    have py' := pick_hi a2 255 (by omega)
    go_wp2_with fail
    refine (sum_any _ k c' _ ys _ (Reads.of_own ho) hzs (by omega)).mono ?_
    rintro e w2 ⟨rfl, rfl⟩
    have hbd := sumOf_bd ys
    have hk1 : ((k : Int) == 0) = false := by rw [beq_eq_false_iff_ne]; omega
    obtain ⟨i, hi⟩ := Int.eq_ofNat_of_zero_le px
    obtain ⟨j, hj⟩ := Int.eq_ofNat_of_zero_le py
    rw [hi] at px'
    rw [hj] at py'
    have hik : i < ys.length := by omega
    have hc : w1.cell? ⟨g, i, none⟩ = some (.int .u8 (ys.getD i 0)) := by
      rw [ho.cellAt i (by omega), List.getElem?_map, List.getElem?_eq_getElem hik]; simp [List.getD, List.getElem?_eq_getElem hik]
    have hf := ho.frozenAt i
    have hyi := hzs (ys.getD i 0) (by rw [List.getD, List.getElem?_eq_getElem hik]; simp)
    obtain ⟨r, hx, hr0, hr1, hrne⟩ := xor_u8 (ys.getD i 0) (1 + j) hyi (by omega)
    have hne := sumOf_set ys i r hik hyi ⟨hr0, hr1⟩ hrne
    have hst := (ho.stored i (.int .u8 r)).1.drew
    have hset : (ys.map (Value.int .u8)).set i (.int .u8 r) = (ys.set i r).map (Value.int .u8) := by rw [List.map_set]
    rw [hset] at hst
    have HI := Lib.hid hi
    have HJ := Lib.hid hj
    have hzs2 : ∀ z ∈ ys.set i r, 0 ≤ z ∧ z ≤ 255 := by
      intro z hz
      rcases List.mem_or_eq_of_mem_set hz with h | rfl
      · exact hzs z h
      · exact ⟨hr0, hr1⟩
    have hb2 : Below w.heap.size w (w1.setCell ⟨g, i, none⟩ (.int .u8 r)).drew := (hb.setCell (by exact hgb) _).drew
    have hcall := sum_any _ k c' _ (ys.set i r) _ (Reads.of_own hst) hzs2 (by omega)
    have hbd2 := sumOf_bd (ys.set i r)
    clear hi hj hset hst hzs hzs2 ho hb
    generalize sumOf ys = s1 at *
    generalize hs2 : sumOf (ys.set i r) = s2 at *
    have HC := Lib.hid hcall
    clear hcall hs2
    generalize ys.getD i 0 = y at *
    go_wp2
    refine region_tail 13 (by kernel_rfl) (by kernel_rfl) ?_
    simp only [List.take_succ_cons, List.take_zero, List.drop_succ_cons, List.drop_zero]
    repeat still_step
    still_call (picked_still _ _ _ _ HI.out (by omega) (by omega) (by omega) (by omega))
    repeat still_step
    still_call (picked_still _ _ _ _ HJ.out (by omega) (by omega) (by omega) (by omega))
    repeat still_step
    refine wpStill_nil ?_
    go_wp2_with fail
    refine HC.out.mono ?_
    rintro e w3 ⟨rfl, rfl⟩
    have h1 : (s1 != s2) = true := by rw [bne_iff_ne]; exact hne
    clear hne
    go_wp2
    go_ret
    exact ⟨rfl, hb2⟩

end Go.Proofs.Ytogeeaplepiijaa
