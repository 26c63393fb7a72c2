/- Acts' lines, plain: a line that was shown is read as it was. -/
import Derived.Test.YtjakmpkfniangaaDoorLawLinesFixed
import Derived.Lib.SplitLaws
import Derived.Lib.IndexLaws
import Derived.Lib.AtoiTie
import Derived.Lib.ItoaMem
import Derived.Lib.ItoaNum
namespace Go.Proofs.YtjakmpkfniangaaDoor
open Go.RowKit
set_option linter.unusedVariables false
open Go.Lib

theorem ba_ext {a b : ByteArray} (h : a.data.toList = b.data.toList) : a = b := by
  cases a; cases b
  exact congrArg ByteArray.mk (Array.toList_inj.1 h)
theorem ba_append (a b : ByteArray) : (a ++ b).data.toList = a.data.toList ++ b.data.toList := by
  rw [ByteArray.data_append, Array.toList_append]
/-! ### pieces between blanks -/
theorem indexByte_at (p : List UInt8) (c : UInt8) (r : List UInt8) (h : c ∉ p) : indexByte (p ++ c :: r) c = p.length := by
  induction p with
  | nil => simp [indexByte]
  | cons b p ih =>
    have hb : (b == c) = false := beq_eq_false_iff_ne.2 (fun e => h (by rw [e]; exact List.mem_cons_self ..))
    have hp := ih (fun k => h (List.mem_cons_of_mem _ k))
    show (if b == c then 0 else if indexByte (p ++ c :: r) c == -1 then -1 else indexByte (p ++ c :: r) c + 1) = _
    rw [hb, hp]
    have : (((p.length : Nat) : Int) == -1) = false := beq_eq_false_iff_ne.2 (by omega)
    rw [this]
    simp only [Bool.false_eq_true, if_false, List.length_cons]
    omega
theorem indexByte_no (p : List UInt8) (c : UInt8) (h : c ∉ p) : indexByte p c = -1 := by
  induction p with
  | nil => rfl
  | cons b p ih =>
    have hb : (b == c) = false := beq_eq_false_iff_ne.2 (fun e => h (by rw [e]; exact List.mem_cons_self ..))
    show (if b == c then 0 else if indexByte p c == -1 then -1 else indexByte p c + 1) = _
    rw [hb, ih (fun k => h (List.mem_cons_of_mem _ k))]
    rfl
/-- pieces, with c ahead of each but the first -/
def joined (c : UInt8) (p : List UInt8) (ps : List (List UInt8)) : List UInt8 := p ++ ps.flatMap (fun q => c :: q)
theorem joined_cons (c : UInt8) (p q : List UInt8) (ps : List (List UInt8)) : joined c p (q :: ps) = p ++ c :: joined c q ps := by
  simp [joined]
theorem splitK_joined (c : UInt8) : ∀ (ps : List (List UInt8)) (p : List UInt8), c ∉ p → (∀ q ∈ ps, c ∉ q) → splitK [c] 0 ps.length (joined c p ps) = p :: ps
  | [], p, hp, _ => by simp [joined, splitK]
  | q :: ps, p, hp, h => by
    have hq := h q (List.mem_cons_self ..)
    have ih := splitK_joined c ps q hq (fun x hx => h x (List.mem_cons_of_mem _ hx))
    have hi : index (p ++ c :: joined c q ps) [c] = p.length := by rw [index_one, indexByte_at p c _ hp]
    rw [joined_cons, List.length_cons, splitK, hi]
    have : (((p.length : Nat) : Int) == -1) = false := beq_eq_false_iff_ne.2 (by omega)
    rw [this]
    simp only [Int.toNat_natCast, Nat.add_zero, Bool.false_eq_true, if_false, List.length_singleton]
    have hd : (p ++ c :: joined c q ps).drop (p.length + 1) = joined c q ps := by
      rw [List.drop_append, List.drop_of_length_le (by omega), Nat.add_sub_cancel_left]
      rfl
    rw [List.take_left, hd, ih]
theorem count_joined (c : UInt8) (ps : List (List UInt8)) : ∀ (p : List UInt8), c ∉ p → (∀ q ∈ ps, c ∉ q) → (joined c p ps).count c = ps.length := by
  induction ps with
  | nil => exact fun p hp _ => by simp [joined, List.count_eq_zero.2 hp]
  | cons q ps ih =>
    intro p hp h
    rw [joined_cons, List.count_append, List.count_eq_zero.2 hp, List.count_cons_self, ih q (h q (List.mem_cons_self ..)) (fun x hx => h x (List.mem_cons_of_mem _ hx)), List.length_cons]
    omega
theorem wordsR_joined (s : ByteArray) (p : List UInt8) (ps : List (List UInt8)) (hs : s.data.toList = joined 32 p ps) (hp : (32 : UInt8) ∉ p) (h : ∀ q ∈ ps, (32 : UInt8) ∉ q) :
    (wordsR s).map (·.data.toList) = p :: ps := by
  unfold wordsR
  rw [splitB_data]
  show splitK [32] 0 (count s.data.toList [32]) s.data.toList = _
  rw [count_one, hs, count_joined 32 ps p hp h, splitK_joined 32 ps p hp h]
/-! ### numbers -/
theorem digit_val (d : Nat) (h : d < 10) : digitVal (UInt8.ofNat (48 + d)) = some d := by
  have : (UInt8.ofNat (48 + d)).toNat = 48 + d := by
    rw [UInt8.toNat_ofNat']
    omega
  unfold digitVal
  rw [this, if_pos (by omega)]
  congr 1
  omega
theorem decFrom_append (l r : List UInt8) : ∀ acc : Nat, decFrom acc (l ++ r) = (decFrom acc l).bind (fun n => decFrom n r) := by
  induction l with
  | nil => exact fun acc => rfl
  | cons b l ih =>
    intro acc
    show (match digitVal b with
      | some d => decFrom (acc * 10 + d) (l ++ r)
      | none => none) = (match digitVal b with
      | some d => decFrom (acc * 10 + d) l
      | none => none).bind _
    cases digitVal b with
    | none => rfl
    | some d => exact ih _
theorem decFrom_one (acc d : Nat) (h : d < 10) : decFrom acc [UInt8.ofNat (48 + d)] = some (acc * 10 + d) := by
  show (match digitVal (UInt8.ofNat (48 + d)) with
    | some d => decFrom (acc * 10 + d) []
    | none => none) = _
  rw [digit_val d h]
  rfl
theorem decFrom_digits (u : Nat) : decFrom 0 (decDigits u) = some u := by
  induction u using Nat.strongRecOn with
  | _ u ih =>
    by_cases h : u < 10
    · rw [decDigits, dif_pos h]
      rw [decFrom_one 0 u h, Nat.zero_mul, Nat.zero_add]
    · rw [decDigits, dif_neg h, decFrom_append, ih (u / 10) (by omega)]
      rw [Option.bind_some, decFrom_one _ _ (by omega)]
      congr 1
      omega
theorem digits_range (u : Nat) : ∀ b ∈ decDigits u, 48 ≤ b.toNat ∧ b.toNat ≤ 57 := by
  induction u using Nat.strongRecOn with
  | _ u ih =>
    have one : ∀ d, d < 10 → (UInt8.ofNat (48 + d)).toNat = 48 + d := fun d h => by rw [UInt8.toNat_ofNat']; omega
    intro b hb
    by_cases h : u < 10
    · rw [decDigits, dif_pos h, List.mem_singleton] at hb
      rw [hb, one u h]; omega
    · rw [decDigits, dif_neg h] at hb
      rcases List.mem_append.1 hb with hb | hb
      · exact ih (u / 10) (by omega) b hb
      · rw [List.mem_singleton.1 hb, one _ (by omega)]; omega
theorem itoa_no (n : Int) (h : 0 ≤ n) (c : UInt8) (hc : c.toNat < 48) : c ∉ itoa n := by
  unfold itoa
  rw [if_neg (by omega)]
  intro k
  have := digits_range _ _ k
  omega
theorem nDigits_short (u : Nat) (h : u < 10 ^ 18) : nDigits u ≤ 18 := by
  have key : ∀ k u : Nat, u < 10 ^ (k + 1) → nDigits u ≤ k + 1 := by
    intro k
    induction k with
    | zero => intro u h; rw [nDigits_small (by omega)]; omega
    | succ k ih =>
      intro u h
      by_cases h1 : u < 10
      · rw [nDigits_small h1]; omega
      · rw [nDigits_big h1]
        have : u / 10 < 10 ^ (k + 1) := by
          rw [Nat.div_lt_iff_lt_mul (by omega)]
          calc u < 10 ^ (k + 1 + 1) := h
            _ = 10 ^ (k + 1) * 10 := Nat.pow_succ ..
        have := ih _ this
        omega
  exact key 17 u h
theorem atoiV_itoa (n : Int) (h0 : 0 ≤ n) (h1 : n < 10 ^ 18) (s : ByteArray) (hs : s.data.toList = itoa n) : atoiV s = n := by
  obtain ⟨u, rfl⟩ : ∃ u : Nat, n = u := ⟨n.toNat, by omega⟩
  have hu : u < 10 ^ 18 := by omega
  rw [itoa_nonneg] at hs
  have hl : (decDigits u).length ≤ 18 := by rw [decDigits_length]; exact nDigits_short u hu
  unfold atoiV
  rw [hs, atoiAll_short _ hl]
  have hd := decFrom_digits u
  have hr := digits_range u
  cases hq : decDigits u with
  | nil =>
    have := decDigits_length u
    rw [hq] at this
    have h2 : 1 ≤ nDigits u := by
      by_cases h : u < 10
      · rw [nDigits_small h]; omega
      · rw [nDigits_big h]; omega
    simp at this
    omega
  | cons b r =>
    rw [hq] at hd hr
    have hb := hr b (List.mem_cons_self ..)
    have n45 : (b == 45) = false := beq_eq_false_iff_ne.2 (fun e => by rw [e] at hb; exact absurd hb.1 (by decide))
    have n43 : (b == 43) = false := beq_eq_false_iff_ne.2 (fun e => by rw [e] at hb; exact absurd hb.1 (by decide))
    have : atoi (b :: r) = some (u : Int) := by
      show (if (b == 45) = true then (decNat r).map fun (m : Nat) => -(m : Int)
        else if (b == 43) = true then (decNat r).map fun (m : Nat) => (m : Int)
        else (decNat (b :: r)).map fun (m : Nat) => (m : Int)) = _
      rw [n45, n43]
      simp [decNat, hd]
    rw [this]
    rfl
end Go.Proofs.YtjakmpkfniangaaDoor
