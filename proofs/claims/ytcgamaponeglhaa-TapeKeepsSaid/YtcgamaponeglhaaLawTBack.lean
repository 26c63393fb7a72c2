/- TapeBack: the walk. -/
import Derived.Test.YtcgamaponeglhaaRead
import Derived.Test.YtcgamaponeglhaaSame
namespace Go.Proofs.Ytcgamaponeglhaa
open Go.RowKit

theorem frames_bd (rs : List Rc) (hc : ∀ r ∈ rs, r.check = 0) : ∀ z ∈ frames rs, 0 ≤ z ∧ z ≤ 255 := by
  intro z h
  obtain ⟨r, hr, h⟩ := List.mem_flatMap.1 h
  have := recBytes_le r
  exact frameOf_bd (recBytes r) (by omega) (bytesOf_bd r.nums (rc_ok r (hc r hr)).bd) z h
theorem recsN_check (rows : List (List Int)) (k : Nat) : ∀ r ∈ recsN rows k, r.check = 0 := by
  intro r h
  obtain ⟨j, _, rfl⟩ := List.mem_map.1 h
  exact recAt_check rows j

set_option maxRecDepth 100000 in
set_option maxHeartbeats 1000000 in
theorem tapeBack_walk (A : Option Addr) (n c : Nat) (rows : List (List Int)) (w : World) (h : IsRows 4 32 w A n c rows) :
    Calls Try.prog 9 #[.slice A n c] w fun e w' => e = .returned (.bool true) ∧ Below w.heap.size w w' := by
  have CT := Lib.hid (taped_any A n c rows w h)
  have hfl := frames_len (recsN rows (rounds n))
  have hck := recsN_check rows (rounds n)
  have hrl := recsN_length rows (rounds n)
  have hr10 : (recsN rows (rounds n)).length ≤ 10 := by rw [hrl]; unfold rounds; omega
  clear hrl
  generalize recsN rows (rounds n) = rs at *
  have hrd := readOf_frames rs hck []
  rw [List.append_nil, show readOf [] = ([], 0) from rfl] at hrd
  simp only [List.append_nil, Nat.add_zero] at hrd
  have hbd := frames_bd rs hck
  obtain ⟨d, hd⟩ : ∃ d, frames rs = d := ⟨_, rfl⟩
  rw [hd] at hfl hrd hbd
  have HD := Lib.hid hd
  clear hd hck
  go_enter Try.func9, Try.ntmps9
  go_wp2_with fail
  refine CT.out.mono ?_
  rintro e w1 ⟨v, u, rfl, o1, o2, b1⟩
  clear CT
  rw [HD.out] at o1
  obtain ⟨A1, c1, rfl, hc1, hm1⟩ := own_shape o1
  obtain ⟨Au, cu, rfl, hcu, hcu2⟩ := own_shape o2
  have r1 := Reads.of_own o1
  have r2 := Reads.of_own o2
  have bz := b1.size
  clear o1 o2
  have CR := Lib.hid (fun W B hr hB => read_ok A1 d.length c1 B d 0 W hr hc1 (by omega) hB (by omega) (by omega) hbd)
  rw [hrd] at CR
  clear hbd hrd
  have r3 := r1.alloc (Nat.le_refl _) (.cells #[.slice A1 d.length c1, .int .i64 0] 45)
  have r4 := r2.alloc (Nat.le_refl _) (.cells #[.slice A1 d.length c1, .int .i64 0] 45)
  have E1 := Blk.new w1 45 #[.slice A1 d.length c1, .int .i64 0]
  have bel := b1.alloc bz (.cells #[.slice A1 d.length c1, .int .i64 0] 45)
  clear r1 r2 b1
  go_wp2_with fail
  refine (CR.out _ _ r3 (by simp)).mono ?_
  rintro e w2 ⟨u2, rfl, o5, b5⟩
  obtain ⟨A2, c2, rfl, hc2, hm2⟩ := own_shape o5
  have E2 := E1.below b5 (by simp)
  have r5 := (Reads.of_own o5)
  have r6 := (r4.below (b5.mono (by simp))).more (show w1.heap.size ≤ w2.heap.size by have := b5.size; simp at this; omega)
  have bel2 := bel.trans (b5.mono bel.size)
  have CS := fun W (hr5 : Reads W w2.heap.size 10 A2 rs.length (rcRow rs)) (hr6 : Reads W w2.heap.size 10 Au rs.length (rcRow rs)) => Lib.hid (same_yes A2 Au rs.length c2 cu w2.heap.size rs W rfl (by omega) hr5 hr6)
  have t0 := E2.cell 0
  have t1 := E2.cell 1
  clear E1 r3 r4 bel b5 o5 CR
  go_wp2_with fail
  refine (CS _ r5 r6).out.mono ?_
  rintro e w3 ⟨rfl, q, rfl⟩
  go_wp2
  go_ret
  exact ⟨ret_true (by simp), below_drewN bel2 _⟩

end Go.Proofs.Ytcgamaponeglhaa
