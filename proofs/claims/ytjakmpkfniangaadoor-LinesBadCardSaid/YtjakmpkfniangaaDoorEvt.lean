/- Events: 'event'. -/
import Derived.Test.YtjakmpkfniangaaDoorChk
namespace Go.Proofs.YtjakmpkfniangaaDoor
open Go.RowKit

set_option maxHeartbeats 1000000 in
set_option maxRecDepth 100000 in
theorem event_any (k a b c : Int) (w : World) (h0 : Is64 k) (h1 : Is64 a) (h2 : Is64 b) (h3 : Is64 c) :
    Calls Tryd.prog 28 #[.agg #[.int .i64 k, .int .i64 a, .int .i64 b, .int .i64 c]] w (Puts w (evOf k a b c).val) := by
  obtain ⟨h01, h02⟩ := h0
  obtain ⟨h11, h12⟩ := h1
  obtain ⟨h21, h22⟩ := h2
  obtain ⟨h31, h32⟩ := h3
  have px := pick_lo k 8 (by omega)
  have px' := pick_hi k 8 (by omega)
  have HV : ∀ m, pick k 8 = m → evOf k a b c = (if m < 3 then ⟨1, pick a 2, pick b 24, pick c 1000, 0, 0⟩ else if m < 5 then ⟨2, 0, 0, 0, 0, 0⟩ else if m < 7 then ⟨3, 0, 0, 0, pick a 3, pick b 6⟩ else ⟨4, 0, 0, 0, 0, 0⟩) := by intro m hm; subst hm; rfl
  have HW := Lib.hid HV
  clear HV
  generalize evOf k a b c = ev at *
  go_enter Tryd.func28, Tryd.ntmps28
  go_wp2_with fail
  refine (picked_any _ _ _ (by omega) (by omega) (by omega) (by omega)).mono ?_
  rintro e w1 ⟨rfl, rfl⟩
  obtain ⟨m, hm⟩ : ∃ m, pick k 8 = m := ⟨_, rfl⟩
  have HE := HW.out m hm
  rw [hm] at px px' ⊢
  clear HW hm
  rcases (show m = 0 ∨ m = 1 ∨ m = 2 ∨ m = 3 ∨ m = 4 ∨ m = 5 ∨ m = 6 ∨ m = 7 by omega) with h | h | h | h | h | h | h | h
  all_goals
    subst h
    simp only [reduceIte, Int.reduceLT] at HE
    subst HE
    go_wp2_with fail
  iterate 3
    · refine region_tail 10 (by kernel_rfl) (by kernel_rfl) ?_
      simp only [List.take_succ_cons, List.take_zero, List.drop_succ_cons, List.drop_zero]
      repeat still_step
      still_call (picked_still _ _ _ _ rfl (by omega) (by omega) (by omega) (by omega))
      repeat still_step
      still_call (picked_still _ _ _ _ rfl (by omega) (by omega) (by omega) (by omega))
      repeat still_step
      still_call (picked_still _ _ _ _ rfl (by omega) (by omega) (by omega) (by omega))
      repeat still_step
      refine wpStill_nil ?_
      go_wp2
      exact bodyPost_ret (v := (⟨1, pick a 2, pick b 24, pick c 1000, 0, 0⟩ : Ev).val) (by simp [results, Tryd.results28, go_sem, Ev.val]) rfl ⟨rfl, by repeat (first | exact Below.refl _ _ | refine Below.drew ?_ | refine Below.alloc ?_ (by simp) _)⟩
  iterate 2
    · go_wp2
      exact bodyPost_ret (v := (⟨2, 0, 0, 0, 0, 0⟩ : Ev).val) (by simp [results, Tryd.results28, go_sem, Ev.val]) rfl ⟨rfl, by repeat (first | exact Below.refl _ _ | refine Below.drew ?_ | refine Below.alloc ?_ (by simp) _)⟩
  iterate 2
    · refine region_tail 8 (by kernel_rfl) (by kernel_rfl) ?_
      simp only [List.take_succ_cons, List.take_zero, List.drop_succ_cons, List.drop_zero]
      repeat still_step
      still_call (picked_still _ _ _ _ rfl (by omega) (by omega) (by omega) (by omega))
      repeat still_step
      still_call (picked_still _ _ _ _ rfl (by omega) (by omega) (by omega) (by omega))
      repeat still_step
      refine wpStill_nil ?_
      go_wp2
      exact bodyPost_ret (v := (⟨3, 0, 0, 0, pick a 3, pick b 6⟩ : Ev).val) (by simp [results, Tryd.results28, go_sem, Ev.val]) rfl ⟨rfl, by repeat (first | exact Below.refl _ _ | refine Below.drew ?_ | refine Below.alloc ?_ (by simp) _)⟩
  · go_wp2
    exact bodyPost_ret (v := (⟨4, 0, 0, 0, 0, 0⟩ : Ev).val) (by simp [results, Tryd.results28, go_sem, Ev.val]) rfl ⟨rfl, by repeat (first | exact Below.refl _ _ | refine Below.drew ?_ | refine Below.alloc ?_ (by simp) _)⟩

end Go.Proofs.YtjakmpkfniangaaDoor
