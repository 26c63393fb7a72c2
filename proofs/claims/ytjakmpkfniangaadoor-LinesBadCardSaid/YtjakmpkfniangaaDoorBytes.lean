/- Plain facts on bytes: no program in sight. -/
import Derived.WalkKit
import Derived.Test.YtjakmpkfniangaaDoorPk
import Derived.WalkSpells
import Derived.WalkLawsBesides
import Derived.Laws.BytesArg
import Derived.PlainAid
import Derived.Laws.BitsAllLaws
import Derived.Laws.BitsLemmas
namespace Go.Proofs.YtjakmpkfniangaaDoor
open Go.RowKit

/-- the four bytes of a number -/
def four (n : Int) : List Int := [n / 16777216, n / 65536 % 256, n / 256 % 256, n % 256]

theorem u8_lt (a b : Int) (ha : 0 ≤ a) (ha' : a < 256) (hb : 0 ≤ b) (hb' : b < 256) : (UInt8.ofNat a.toNat < UInt8.ofNat b.toNat) ↔ a < b := by
  rw [UInt8.lt_iff_toNat_lt]
  simp only [UInt8.toNat_ofNat']
  omega

theorem u8_eq (a b : Int) (ha : 0 ≤ a) (ha' : a < 256) (hb : 0 ≤ b) (hb' : b < 256) : (UInt8.ofNat a.toNat = UInt8.ofNat b.toNat) ↔ a = b := by
  rw [← UInt8.toNat_inj]
  simp only [UInt8.toNat_ofNat']
  omega

theorem four_less (x y : Int) (hx : 0 ≤ x) (hx' : x < 2147483648) (hy : 0 ≤ y) (hy' : y < 2147483648) :
    Op.bytesLess (strOfNums (four x)).toList (strOfNums (four y)).toList = decide (x < y) := by
  rw [ByteArray.toList_eq, ByteArray.toList_eq, strOfNums_data, strOfNums_data]
  simp only [four, List.map_cons, List.map_nil, Op.bytesLess]
  have e1 := u8_lt (x / 16777216) (y / 16777216) (by omega) (by omega) (by omega) (by omega)
  have e2 := u8_lt (x / 65536 % 256) (y / 65536 % 256) (by omega) (by omega) (by omega) (by omega)
  have e3 := u8_lt (x / 256 % 256) (y / 256 % 256) (by omega) (by omega) (by omega) (by omega)
  have e4 := u8_lt (x % 256) (y % 256) (by omega) (by omega) (by omega) (by omega)
  have f1 := u8_eq (x / 16777216) (y / 16777216) (by omega) (by omega) (by omega) (by omega)
  have f2 := u8_eq (x / 65536 % 256) (y / 65536 % 256) (by omega) (by omega) (by omega) (by omega)
  have f3 := u8_eq (x / 256 % 256) (y / 256 % 256) (by omega) (by omega) (by omega) (by omega)
  have f4 := u8_eq (x % 256) (y % 256) (by omega) (by omega) (by omega) (by omega)
  generalize UInt8.ofNat (x / 16777216).toNat = a1 at *
  generalize UInt8.ofNat (x / 65536 % 256).toNat = a2 at *
  generalize UInt8.ofNat (x / 256 % 256).toNat = a3 at *
  generalize UInt8.ofNat (x % 256).toNat = a4 at *
  generalize UInt8.ofNat (y / 16777216).toNat = b1 at *
  generalize UInt8.ofNat (y / 65536 % 256).toNat = b2 at *
  generalize UInt8.ofNat (y / 256 % 256).toNat = b3 at *
  generalize UInt8.ofNat (y % 256).toNat = b4 at *
  rw [Bool.eq_iff_iff]
  simp only [Bool.or_eq_true, Bool.and_eq_true, decide_eq_true_eq, beq_iff_eq, Bool.and_false, Bool.or_false, e1, e2, e3, e4, f1, f2, f3]
  omega

/-- the two numbers of a sum -/
def sumStep (ab : Int × Int) (c : Int) : Int × Int := ((ab.1 + c) % 65521, (ab.2 + (ab.1 + c) % 65521) % 65521)
def sumAB (zs : List Int) : Int × Int := zs.foldl sumStep (1, 0)
/-- what 'tape.Sum' answers -/
def sumOf (zs : List Int) : Int := (sumAB zs).2 * 65536 + (sumAB zs).1

theorem sumAB_bd (zs : List Int) : 0 ≤ (sumAB zs).1 ∧ (sumAB zs).1 < 65521 ∧ 0 ≤ (sumAB zs).2 ∧ (sumAB zs).2 < 65521 := by
  have gen : ∀ (zs : List Int) (ab : Int × Int), (0 ≤ ab.1 ∧ ab.1 < 65521 ∧ 0 ≤ ab.2 ∧ ab.2 < 65521) → (0 ≤ (zs.foldl sumStep ab).1 ∧ (zs.foldl sumStep ab).1 < 65521 ∧ 0 ≤ (zs.foldl sumStep ab).2 ∧ (zs.foldl sumStep ab).2 < 65521) := by
    intro zs
    induction zs with
    | nil => intro ab h; exact h
    | cons z zs ih =>
      intro ab h
      rw [List.foldl_cons]
      exact ih _ (by simp only [sumStep]; omega)
  exact gen zs (1, 0) (by simp)
theorem sumOf_bd (zs : List Int) : 0 ≤ sumOf zs ∧ sumOf zs < 4293984256 := by
  have := sumAB_bd zs
  unfold sumOf
  omega
theorem sumAB_snoc (zs : List Int) (c : Int) : sumAB (zs ++ [c]) = sumStep (sumAB zs) c := by simp [sumAB]
theorem take_snoc (zs : List Int) (k : Nat) (h : k < zs.length) : zs.take (k + 1) = zs.take k ++ [zs.getD k 0] := by
  rw [List.take_succ_eq_append_getElem h]; simp [List.getD, List.getElem?_eq_getElem h]

theorem ofInt_i64 (a : Nat) (ha : a < 9223372036854775808) : (BitVec.ofInt 64 (a : Int)).toNat = a := by
  rw [BitVec.ofInt_natCast, BitVec.toNat_ofNat]; exact Nat.mod_eq_of_lt (by omega)
theorem i64_or_nat (a b : Nat) (ha : a < 9223372036854775808) (hb : b < 9223372036854775808) : bits .or .i64 (a : Int) (b : Int) = ((a ||| b : Nat) : Int) := by
  have hx : a ||| b < 2 ^ 63 := Nat.or_lt_two_pow (by omega) (by omega)
  show IntKind.i64.wrap ((BitVec.ofInt 64 (a : Int) ||| BitVec.ofInt 64 (b : Int)).toNat : Int) = _
  rw [BitVec.toNat_or, ofInt_i64 a ha, ofInt_i64 b hb, IntKind.wrap_i64]
  omega
/-- 'b<<16 | a' -/
theorem or_shift (b a : Int) (hb : 0 ≤ b) (hb' : b < 140737488355328) (ha : 0 ≤ a) (ha' : a < 65536) : bits .or .i64 (b * 65536) a = b * 65536 + a := by
  obtain ⟨m, rfl⟩ := Int.eq_ofNat_of_zero_le hb
  obtain ⟨n, rfl⟩ := Int.eq_ofNat_of_zero_le ha
  have h := i64_or_nat (m * 65536) n (by omega) (by omega)
  rw [show ((m : Int) * 65536) = ((m * 65536 : Nat) : Int) by omega, h]
  have e : m * 65536 ||| n = m * 65536 + n := by
    rw [show m * 65536 = m <<< 16 by simp [Nat.shiftLeft_eq]]
    exact (Nat.shiftLeft_add_eq_or_of_lt (by omega) m).symm
  rw [e]
  omega

/-- 'n<<8 | c' -/
theorem or_shift8 (b a : Int) (hb : 0 ≤ b) (hb' : b < 35184372088832) (ha : 0 ≤ a) (ha' : a < 256) : bits .or .i64 (b * 256) a = b * 256 + a := by
  obtain ⟨m, rfl⟩ := Int.eq_ofNat_of_zero_le hb
  obtain ⟨n, rfl⟩ := Int.eq_ofNat_of_zero_le ha
  have h := i64_or_nat (m * 256) n (by omega) (by omega)
  rw [show ((m : Int) * 256) = ((m * 256 : Nat) : Int) by omega, h]
  have e : m * 256 ||| n = m * 256 + n := by
    rw [show m * 256 = m <<< 8 by simp [Nat.shiftLeft_eq]]
    exact (Nat.shiftLeft_add_eq_or_of_lt (by omega) m).symm
  rw [e]
  omega

/-- the number that bytes are -/
def valOf (zs : List Int) : Int := zs.foldl (fun a c => a * 256 + c) 0
theorem valOf_snoc (zs : List Int) (c : Int) : valOf (zs ++ [c]) = valOf zs * 256 + c := by simp [valOf]
theorem valOf_bd : ∀ (k : Nat) (zs : List Int), zs.length ≤ k → (∀ z ∈ zs, 0 ≤ z ∧ z ≤ 255) → 0 ≤ valOf zs ∧ valOf zs < 256 ^ k := by
  have gen : ∀ (zs : List Int) (a : Int) (m : Nat), (∀ z ∈ zs, 0 ≤ z ∧ z ≤ 255) → 0 ≤ a → a < 256 ^ m → 0 ≤ zs.foldl (fun a c => a * 256 + c) a ∧ zs.foldl (fun a c => a * 256 + c) a < 256 ^ (m + zs.length) := by
    intro zs
    induction zs with
    | nil => intro a m _ h0 h1; simpa using ⟨h0, h1⟩
    | cons z zs ih =>
      intro a m hz h0 h1
      have hz0 := hz z (List.mem_cons_self ..)
      have := ih (a * 256 + z) (m + 1) (fun x hx => hz x (List.mem_cons_of_mem _ hx)) (by omega) (by rw [Int.pow_succ]; omega)
      rw [List.foldl_cons, List.length_cons, show m + (zs.length + 1) = m + 1 + zs.length by omega]
      exact this
  intro k zs hk hz
  obtain ⟨h1, h2⟩ := gen zs 0 0 hz (by omega) (by simp)
  refine ⟨h1, Int.lt_of_lt_of_le h2 ?_⟩
  rw [Nat.zero_add]
  have h : (256 : Nat) ^ zs.length ≤ 256 ^ k := Nat.pow_le_pow_right (by omega) hk
  have h' := Int.ofNat_le.2 h
  rw [Int.natCast_pow, Int.natCast_pow] at h'
  exact h'

theorem valOf_four (n : Int) : valOf (four n) = n := by
  simp only [valOf, four, List.foldl_cons, List.foldl_nil]
  omega

end Go.Proofs.YtjakmpkfniangaaDoor
