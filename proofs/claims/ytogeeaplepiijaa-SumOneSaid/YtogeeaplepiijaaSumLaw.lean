/- Plain laws on the sum: one changed byte, two neighbours that change places. -/
import Derived.Test.YtogeeaplepiijaaBytes
namespace Go.Proofs.Ytogeeaplepiijaa
open Go.RowKit

theorem sum_fst : ∀ (zs : List Int) (ab : Int × Int), (zs.foldl sumStep ab).1 % 65521 = (ab.1 + zs.sum) % 65521
  | [], ab => by simp
  | z :: zs, ab => by
    rw [List.foldl_cons, sum_fst zs, List.sum_cons]
    simp only [sumStep]
    omega

theorem sumA (zs : List Int) : (sumAB zs).1 = (1 + zs.sum) % 65521 := by
  have h := sum_fst zs (1, 0)
  have b := sumAB_bd zs
  unfold sumAB at b ⊢
  simp only at h
  omega

theorem sum_set : ∀ (zs : List Int) (i : Nat) (y : Int), i < zs.length → (zs.set i y).sum = zs.sum - zs.getD i 0 + y
  | [], _, _, h => by simp at h
  | z :: zs, 0, y, _ => by simp; omega
  | z :: zs, i + 1, y, h => by
    have := sum_set zs i y (by simpa using h)
    simp only [List.set_cons_succ, List.sum_cons, this, List.getD_cons_succ]
    omega

/-- ONE CHANGED BYTE CHANGES THE SUM. -/
theorem sumOf_set (zs : List Int) (i : Nat) (y : Int) (hi : i < zs.length) (hz : 0 ≤ zs.getD i 0 ∧ zs.getD i 0 ≤ 255) (hy : 0 ≤ y ∧ y ≤ 255) (hne : y ≠ zs.getD i 0) : sumOf zs ≠ sumOf (zs.set i y) := by
  have h1 := sumA zs
  have h2 := sumA (zs.set i y)
  rw [sum_set zs i y hi] at h2
  have b1 := sumAB_bd zs
  have b2 := sumAB_bd (zs.set i y)
  unfold sumOf
  omega

theorem sum_rest : ∀ (zs : List Int) (a b d : Int), (zs.foldl sumStep (a, (b + d) % 65521)).1 = (zs.foldl sumStep (a, b % 65521)).1 ∧ ((zs.foldl sumStep (a, (b + d) % 65521)).2 - (zs.foldl sumStep (a, b % 65521)).2 - d) % 65521 = 0
  | [], a, b, d => by simp; omega
  | z :: zs, a, b, d => by
    have h := sum_rest zs ((a + z) % 65521) (b + (a + z) % 65521) d
    simp only [List.foldl_cons, sumStep]
    have e1 : ((b + d) % 65521 + (a + z) % 65521) % 65521 = (b + (a + z) % 65521 + d) % 65521 := by omega
    have e2 : (b % 65521 + (a + z) % 65521) % 65521 = (b + (a + z) % 65521) % 65521 := by omega
    rw [e1, e2]
    exact h

theorem swap_split : ∀ (zs : List Int) (i : Nat), i + 1 < zs.length → ∃ p q : List Int, zs = p ++ zs.getD i 0 :: zs.getD (i + 1) 0 :: q ∧ (zs.set i (zs.getD (i + 1) 0)).set (i + 1) (zs.getD i 0) = p ++ zs.getD (i + 1) 0 :: zs.getD i 0 :: q
  | [], _, h => by simp at h
  | [_], i, h => by simp at h
  | x :: y :: zs, 0, _ => ⟨[], zs, by simp, by simp⟩
  | x :: y :: zs, i + 1, h => by
    obtain ⟨p, q, h1, h2⟩ := swap_split (y :: zs) i (by simpa using h)
    refine ⟨x :: p, q, ?_, ?_⟩
    · simp only [List.getD_cons_succ, List.cons_append]
      simp only [List.getD_cons_succ] at h1
      rw [← h1]
    · simp only [List.getD_cons_succ, List.cons_append, List.set_cons_succ]
      simp only [List.getD_cons_succ] at h2
      rw [h2]

/-- TWO UNLIKE NEIGHBOURS THAT CHANGE PLACES CHANGE THE SUM. -/
theorem sumOf_swap (zs : List Int) (i : Nat) (hi : i + 1 < zs.length) (hz : ∀ z ∈ zs, 0 ≤ z ∧ z ≤ 255) :
    (sumOf zs = sumOf ((zs.set i (zs.getD (i + 1) 0)).set (i + 1) (zs.getD i 0))) ↔ zs.getD i 0 = zs.getD (i + 1) 0 := by
  obtain ⟨p, q, h1, h2⟩ := swap_split zs i hi
  have hx := hz (zs.getD i 0) (by rw [List.getD, List.getElem?_eq_getElem (by omega)]; simp)
  have hy := hz (zs.getD (i + 1) 0) (by rw [List.getD, List.getElem?_eq_getElem (by omega)]; simp)
  have b1 := sumAB_bd zs
  have b2 := sumAB_bd ((zs.set i (zs.getD (i + 1) 0)).set (i + 1) (zs.getD i 0))
  have bp := sumAB_bd p
  rw [h2] at b2 ⊢
  have e1 : sumAB zs = sumAB (p ++ zs.getD i 0 :: zs.getD (i + 1) 0 :: q) := congrArg sumAB h1
  have e0 : sumOf zs = sumOf (p ++ zs.getD i 0 :: zs.getD (i + 1) 0 :: q) := congrArg sumOf h1
  rw [e1] at b1
  rw [e0]
  clear e0 e1 h1 h2
  generalize zs.getD i 0 = x at *
  generalize zs.getD (i + 1) 0 = y at *
  unfold sumOf
  unfold sumAB at *
  rw [List.foldl_append] at b1 b2 ⊢
  rw [List.foldl_append]
  simp only [List.foldl_cons] at b1 b2 ⊢
  generalize List.foldl sumStep (1, 0) p = ab at *
  obtain ⟨a, b⟩ := ab
  simp only [sumStep] at *
  have hr := sum_rest q ((a + x + y) % 65521) (b + (a + x) + (a + x + y)) (y - x)
  have f1 : ((a + y) % 65521 + x) % 65521 = (a + x + y) % 65521 := by omega
  have f2 : ((a + x) % 65521 + y) % 65521 = (a + x + y) % 65521 := by omega
  have f3 : ((b + (a + y) % 65521) % 65521 + (a + x + y) % 65521) % 65521 = (b + (a + x) + (a + x + y) + (y - x)) % 65521 := by omega
  have f4 : ((b + (a + x) % 65521) % 65521 + (a + x + y) % 65521) % 65521 = (b + (a + x) + (a + x + y)) % 65521 := by omega
  rw [f1, f3] at b2 ⊢
  rw [f2, f4] at b1 ⊢
  obtain ⟨r1, r2⟩ := hr
  constructor
  · intro h
    omega
  · intro h
    have : y - x = 0 := by omega
    rw [this, Int.add_zero]

theorem xor_u8 (z y : Int) (hz : 0 ≤ z ∧ z ≤ 255) (hy : 1 ≤ y ∧ y ≤ 255) : ∃ r : Int, bits .xor .u8 z y = r ∧ 0 ≤ r ∧ r ≤ 255 ∧ r ≠ z := by
  obtain ⟨m, rfl⟩ := Int.eq_ofNat_of_zero_le hz.1
  obtain ⟨n, rfl⟩ := Int.eq_ofNat_of_zero_le (show 0 ≤ y by omega)
  have hx : m ^^^ n < 2 ^ 8 := Nat.xor_lt_two_pow (by omega) (by omega)
  refine ⟨((m ^^^ n : Nat) : Int), ?_, by omega, by omega, fun h => ?_⟩
  · show IntKind.u8.wrap ((BitVec.ofInt 8 (m : Int) ^^^ BitVec.ofInt 8 (n : Int)).toNat : Int) = _
    rw [BitVec.toNat_xor, BitVec.ofInt_natCast, BitVec.ofInt_natCast, BitVec.toNat_ofNat, BitVec.toNat_ofNat, Nat.mod_eq_of_lt (by omega), Nat.mod_eq_of_lt (by omega), IntKind.wrap_u8]
    omega
  · have h' : m ^^^ n = m := by omega
    have : m ^^^ (m ^^^ n) = m ^^^ m := by rw [h']
    rw [← Nat.xor_assoc, Nat.xor_self, Nat.zero_xor] at this
    omega

end Go.Proofs.Ytogeeaplepiijaa
