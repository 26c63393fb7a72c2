/- Plain facts on bytes: no program in sight. -/
import Derived.WalkKit
import Derived.WalkSpells
import Derived.WalkLawsBesides
import Derived.Laws.BytesArg
import Derived.PlainAid
namespace Go.Proofs.Ytogeeaplepiijaa
open Go.RowKit

/-- what 'picked' answers -/
def pick (n m : Int) : Int := (if n < 0 then -(n + 1) else n) % m

theorem pick_lo (n m : Int) (hm : 0 < m) : 0 ≤ pick n m := by unfold pick; exact Int.emod_nonneg _ (by omega)
theorem pick_hi (n m : Int) (hm : 0 < m) : pick n m < m := by unfold pick; exact Int.emod_lt_of_pos _ hm

/-- the four bytes of a number -/
def four (n : Int) : List Int := [n / 16777216, n / 65536 % 256, n / 256 % 256, n % 256]

theorem u8_lt (a b : Int) (ha : 0 ≤ a) (ha' : a < 256) (hb : 0 ≤ b) (hb' : b < 256) : (UInt8.ofNat a.toNat < UInt8.ofNat b.toNat) ↔ a < b := by
  rw [UInt8.lt_iff_toNat_lt]
  simp only [UInt8.toNat_ofNat']
  omega

theorem u8_eq (a b : Int) (ha : 0 ≤ a) (ha' : a < 256) (hb : 0 ≤ b) (hb' : b < 256) : (UInt8.ofNat a.toNat = UInt8.ofNat b.toNat) ↔ a = b := by
  rw [← UInt8.toNat_inj]
  simp only [UInt8.toNat_ofNat']
  omega

theorem four_less (x y : Int) (hx : 0 ≤ x) (hx' : x < 2147483648) (hy : 0 ≤ y) (hy' : y < 2147483648) :
    Op.bytesLess (strOfNums (four x)).toList (strOfNums (four y)).toList = decide (x < y) := by
  rw [ByteArray.toList_eq, ByteArray.toList_eq, strOfNums_data, strOfNums_data]
  simp only [four, List.map_cons, List.map_nil, Op.bytesLess]
  have e1 := u8_lt (x / 16777216) (y / 16777216) (by omega) (by omega) (by omega) (by omega)
  have e2 := u8_lt (x / 65536 % 256) (y / 65536 % 256) (by omega) (by omega) (by omega) (by omega)
  have e3 := u8_lt (x / 256 % 256) (y / 256 % 256) (by omega) (by omega) (by omega) (by omega)
  have e4 := u8_lt (x % 256) (y % 256) (by omega) (by omega) (by omega) (by omega)
  have f1 := u8_eq (x / 16777216) (y / 16777216) (by omega) (by omega) (by omega) (by omega)
  have f2 := u8_eq (x / 65536 % 256) (y / 65536 % 256) (by omega) (by omega) (by omega) (by omega)
  have f3 := u8_eq (x / 256 % 256) (y / 256 % 256) (by omega) (by omega) (by omega) (by omega)
  have f4 := u8_eq (x % 256) (y % 256) (by omega) (by omega) (by omega) (by omega)
  generalize UInt8.ofNat (x / 16777216).toNat = a1 at *
  generalize UInt8.ofNat (x / 65536 % 256).toNat = a2 at *
  generalize UInt8.ofNat (x / 256 % 256).toNat = a3 at *
  generalize UInt8.ofNat (x % 256).toNat = a4 at *
  generalize UInt8.ofNat (y / 16777216).toNat = b1 at *
  generalize UInt8.ofNat (y / 65536 % 256).toNat = b2 at *
  generalize UInt8.ofNat (y / 256 % 256).toNat = b3 at *
  generalize UInt8.ofNat (y % 256).toNat = b4 at *
  rw [Bool.eq_iff_iff]
  simp only [Bool.or_eq_true, Bool.and_eq_true, decide_eq_true_eq, beq_iff_eq, Bool.and_false, Bool.or_false, e1, e2, e3, e4, f1, f2, f3]
  omega

end Go.Proofs.Ytogeeaplepiijaa
