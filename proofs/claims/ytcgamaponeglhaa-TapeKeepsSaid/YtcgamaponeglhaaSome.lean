/- 'some': a copy of the first bytes. -/
import Derived.Test.YtcgamaponeglhaaBytes
import Derived.Test.YtcgamaponeglhaaMem
import Derived.Test.YtcgamaponeglhaaChecked
namespace Go.Proofs.Ytcgamaponeglhaa
open Go.RowKit

theorem u8_info : (Try.prog.info? 5).map (fun i => (i.zero, i.size, i.bytes)) = some (some (.int .u8 0), 1, 1) := by kernel_rfl

theorem one_nums (k : IntKind) (zs : List Int) : ∀ u ∈ zs.map (Value.int k), u.oneCell' = true := by
  intro u hu
  simp only [List.mem_map] at hu
  obtain ⟨z, _, rfl⟩ := hu
  rfl

/-- the first m of n bytes, in new memory -/
def CopyPost (w : World) (n : Nat) (m : Int) (zs : List Int) (ed : Ending) (w' : World) : Prop := Gives w 5 1 (min n m.toNat) ((zs.take m.toNat).map (Value.int .u8)) ed w'

set_option maxHeartbeats 400000 in
theorem some_any (A : Option Addr) (n c B : Nat) (m : Int) (zs : List Int) (w : World) (h : Reads w B 1 A n (zs.map (Value.int .u8))) (hn : n ≤ c) (hc : n ≤ 140737488351232) (hm : 0 ≤ m) (hm' : m ≤ 140737488351232) :
    Calls Try.prog 18 #[.slice A n c, .int .i64 m] w (CopyPost w n m zs) := by
  obtain ⟨i0, hi0, hz0, hz1, hz2⟩ := info_parts u8_info
  obtain ⟨m, rfl⟩ := Int.eq_ofNat_of_zero_le hm
  have h2 := Reads.take h (k := min n m) (by omega)
  have h1 : (zs.map (Value.int .u8)).take (min n m * 1) = (zs.take (min n m)).map (Value.int .u8) := by rw [Nat.mul_one, List.map_take]
  rw [h1] at h2
  have hx := one_nums .u8 (zs.take (min n m))
  have fin : ∀ (v' : Value) (w' : World) (k : Nat), k = min n m → w'.ownsRow w.heap.size 5 1 v' (0 + k) ([] ++ (zs.take k).map (Value.int .u8)) → w.grownBy w' none →
      CopyPost w n m zs (.returned v') w' := by
    intro v' w' k hk ho hg
    have hz : zs.take k = zs.take (m : Int).toNat := by
      subst hk
      rw [Int.toNat_natCast]
      have hl : zs.length = n := by simpa using h.1
      rcases Nat.le_total n m with h' | h'
      · rw [Nat.min_eq_left h', List.take_of_length_le (by omega), List.take_of_length_le (by omega)]
      · rw [Nat.min_eq_right h']
    rw [hz, Nat.zero_add, List.nil_append, hk] at ho
    exact ⟨v', rfl, by simpa using ho, (Below.refl _ _).grown hg (Nat.le_refl _) (by simp)⟩
  clear h1 h
  by_cases hmn : m < n
  · have e : min n m = m := by omega
    rw [e] at h2 hx
    have hI : (m : Int) < (n : Int) := by omega
    clear e
    go_enter Try.func18, Try.ntmps18
    go_wp2_with (at_builtin; refine wpList_append_any _ rfl _ _ _ rfl w.heap.size 5 i0 _ 1 1 Try.underlying31 hi0 hz0 hz1 hz2 rfl (by omega) (.slice none 0 0) 0 [] rfl (World.ownsRow_nil _ _ _ _) B A m c ((zs.take m).map (Value.int .u8)) rfl h2 hx (by simp only [maxLen]; omega) (by omega) (Nat.le_refl _) ?_; intro v1 w1 hown1 hg1 hat1)
    go_ret
    exact fin _ _ m (by omega) hown1 hg1
  · have e : min n m = n := by omega
    rw [e] at h2 hx
    have hI : ¬ (m : Int) < (n : Int) := by omega
    clear e
    go_enter Try.func18, Try.ntmps18
    go_wp2_with (at_builtin; refine wpList_append_any _ rfl _ _ _ rfl w.heap.size 5 i0 _ 1 1 Try.underlying31 hi0 hz0 hz1 hz2 rfl (by omega) (.slice none 0 0) 0 [] rfl (World.ownsRow_nil _ _ _ _) B A n c ((zs.take n).map (Value.int .u8)) rfl h2 hx (by simp only [maxLen]; omega) (by omega) (Nat.le_refl _) ?_; intro v1 w1 hown1 hg1 hat1)
    go_ret
    exact fin _ _ n (by omega) hown1 hg1

end Go.Proofs.Ytcgamaponeglhaa
