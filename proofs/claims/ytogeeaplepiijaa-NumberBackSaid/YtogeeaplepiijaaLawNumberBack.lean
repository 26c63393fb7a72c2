/- NumberBack: the walk. -/
import Derived.Test.YtogeeaplepiijaaPick
import Derived.Test.YtogeeaplepiijaaSome
import Derived.Test.YtogeeaplepiijaaTake
import Derived.Test.YtogeeaplepiijaaView
namespace Go.Proofs.Ytogeeaplepiijaa
open Go.RowKit

set_option maxHeartbeats 1000000 in
theorem numberBack_walk (a : Int) (A : Option Addr) (n c : Nat) (zs : List Int) (w : World) (h0 : Is64 a) (h1 : IsNums .u8 1 w A n c zs) :
    Calls Try.prog 6 #[.int .i64 a, .slice A n c] w fun e w' => e = .returned (.bool true) ∧ Below w.heap.size w w' := by
  obtain ⟨ha1, ha2⟩ := h0
  obtain ⟨hl, hnc, hcb, hr, hwf⟩ := h1
  obtain ⟨i0, hi0, hz0, hz1, hz2⟩ := info_parts u8_info
  have px := pick_lo a 2147483648 (by omega)
  have px' := pick_hi a 2147483648 (by omega)
  go_enter Try.func6, Try.ntmps6
  go_wp2_with fail
  refine (picked_any _ _ _ (by omega) (by omega) (by omega) (by omega)).mono ?_
  rintro e w1 ⟨rfl, rfl⟩
  generalize pick a 2147483648 = x at *
  go_wp2_with fail
  refine (number_yes _ _ (by omega) (by omega)).mono ?_
  rintro e w1 ⟨g1, rfl, o1, b1⟩
  have hx1 := one_nums .u8 (four x)
  have hx2 := one_nums .u8 zs
  have r1 := Reads.of_own o1
  have r2 := hr.below b1
  have hbs := b1.size
  go_wp2_with (first | (at_builtin; refine wpList_append_any _ rfl (.const (.slice none 0 0)) (.tmp 20) _ rfl w.heap.size 5 i0 _ 1 1 Try.underlying23 hi0 hz0 hz1 hz2 rfl (by omega) (.slice none 0 0) 0 [] rfl (World.ownsRow_nil _ _ _ _) w1.heap.size (some ⟨g1, 0, none⟩) 4 4 ((four x).map (Value.int .u8)) rfl r1 hx1 (by simp only [maxLen]; omega) (by omega) hbs ?_; intro v2 w2 o2 g2 at2; have b2 : Below w.heap.size w w2 := b1.grown g2 hbs (by simp [Value.ownBlock]); have r3 := r2.grown g2 hbs (by simp [Value.ownBlock])) | (at_builtin; refine wpList_append_any _ rfl (.tmp 21) (.tmp 22) _ rfl w.heap.size 5 i0 _ 1 1 Try.underlying23 hi0 hz0 hz1 hz2 rfl (by omega) v2 (0 + 4) ([] ++ (four x).map (Value.int .u8)) rfl o2 w.heap.size A n c (zs.map (Value.int .u8)) rfl r3 hx2 (by simp only [maxLen]; omega) (by omega) b2.size ?_; intro v3 w3 o3 g3 at3))
  have b3 : Below w.heap.size w w3 := b2.grown g3 b2.size (by
    intro k hk
    rcases at2 with e | e <;> rw [e] at hk <;> simp [Value.ownBlock] at hk
    omega)
  have e3 : ([] ++ (four x).map (Value.int .u8)) ++ zs.map (Value.int .u8) = (four x ++ zs).map (Value.int .u8) := by simp
  rw [e3] at o3
  obtain ⟨A3, c3, rfl, hc3, _⟩ := own_shape o3
  have r4 := Reads.of_own o3
  have hval : valOf ((four x ++ zs).take 4) = x := by
    rw [List.take_append_of_le_length (by simp [four]), List.take_of_length_le (by simp [four]), valOf_four]
  have hz4 : ∀ z ∈ four x ++ zs, 0 ≤ z ∧ z ≤ 255 := by
    intro z hz
    rcases List.mem_append.1 hz with h | h
    · simp only [four, List.mem_cons, List.not_mem_nil, or_false] at h
      omega
    · exact u8_of_wf (hwf z h)
  have CT := Lib.hid (take_four A3 (0 + 4 + n) c3 _ (four x ++ zs) w3 r4 (by omega) hc3 hz4)
  rw [hval] at CT
  clear hval hz4 r4 e3 o3 o2 r3 r2 r1 hx1 hx2 o1 at2 at3 g2 g3 hr hwf
  refine CT.out.mono ?_
  rintro e w4 ⟨rfl, rfl⟩
  rw [if_pos (by omega), if_pos (by omega)]
  go_wp2_with fail
  refine (number_no _ _ (by omega)).mono ?_
  rintro e w4 ⟨rfl, rfl⟩
  go_wp2
  go_ret
  exact ⟨rfl, b3⟩

end Go.Proofs.Ytogeeaplepiijaa
