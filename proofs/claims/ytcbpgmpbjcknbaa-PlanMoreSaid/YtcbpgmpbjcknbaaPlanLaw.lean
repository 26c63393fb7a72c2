/- Plans: the plain law. -/
import Derived.Test.YtcbpgmpbjcknbaaPlanBusy
namespace Go.Proofs.Ytcbpgmpbjcknbaa
open Go.RowKit

theorem endTo_ext (h : Nat → Int) : ∀ j i, i < j → h i ≤ h (endTo h j).1 ∧ h (endTo h j).2 ≤ h i
  | 0, i, hi => by omega
  | j + 1, i, hi => by
    have ih := endTo_ext h j
    have e1 : (endTo h (j + 1)).1 = if h j > h (endTo h j).1 then j else (endTo h j).1 := rfl
    have e2 : (endTo h (j + 1)).2 = if h j < h (endTo h j).2 then j else (endTo h j).2 := rfl
    rw [e1, e2]
    constructor
    · split
      · rcases (show i < j ∨ i = j by omega) with h1 | h1
        · have := (ih i h1).1; omega
        · subst h1; exact Int.le_refl _
      · rcases (show i < j ∨ i = j by omega) with h1 | h1
        · exact (ih i h1).1
        · subst h1; omega
    · split
      · rcases (show i < j ∨ i = j by omega) with h1 | h1
        · have := (ih i h1).2; omega
        · subst h1; exact Int.le_refl _
      · rcases (show i < j ∨ i = j by omega) with h1 | h1
        · exact (ih i h1).2
        · subst h1; omega
theorem spread_nonneg (h : Nat → Int) (N : Nat) (hN : 1 ≤ N) : 0 ≤ spread h N := by
  have a := endTo_ext h N 0 (by omega)
  unfold spread
  omega
theorem spread_le (h : Nat → Int) (N : Nat) (hN : 1 ≤ N) (lo hi : Int) (hb : ∀ x, x < N → lo ≤ h x ∧ h x ≤ hi) : spread h N ≤ hi - lo := by
  obtain ⟨_, _, c⟩ := endTo_lt h N
  obtain ⟨c1, c2⟩ := c (by omega)
  have a := hb _ c1
  have b := hb _ c2
  unfold spread
  omega
theorem spread_unlike (h : Nat → Int) (N : Nat) (hN : 1 ≤ N) : 0 < spread h N ↔ Unlike h N := by
  obtain ⟨_, _, c⟩ := endTo_lt h N
  obtain ⟨c1, c2⟩ := c (by omega)
  constructor
  · intro hp
    by_cases hu : Unlike h N
    · exact hu
    · exfalso
      have hall : ∀ x, x < N → h x = h 0 := fun x hx => by
        rcases Nat.eq_zero_or_pos x with h0 | h0
        · rw [h0]
        · by_cases e : h x = h 0
          · exact e
          · exact absurd ⟨x, h0, hx, e⟩ hu
      unfold spread at hp
      rw [hall _ c1, hall _ c2] at hp
      omega
  · rintro ⟨i, h1, h2, h3⟩
    have a := endTo_ext h N 0 (by omega)
    have b := endTo_ext h N i h2
    unfold spread
    omega
theorem unlike_two {h : Nat → Int} {N : Nat} (u : Unlike h N) : 1 < N := by obtain ⟨i, a, b, _⟩ := u; omega
theorem sumTo_moved (n k : Nat → Int) (b t x : Nat) : ∀ L, sumTo (setF n b t) k L x = sumTo n k L x + (if b < L then (if (t : Int) = (x : Int) then k b else 0) - (if n b = (x : Int) then k b else 0) else 0)
  | 0 => by simp [sumTo]
  | L + 1 => by
    have ih := sumTo_moved n k b t x L
    have e1 : sumTo (setF n b t) k (L + 1) x = sumTo (setF n b t) k L x + if setF n b t L = (x : Int) then k L else 0 := rfl
    have e2 : sumTo n k (L + 1) x = sumTo n k L x + if n L = (x : Int) then k L else 0 := rfl
    rw [e1, e2, ih]
    rcases (show b < L ∨ b = L ∨ L < b by omega) with h | h | h
    · have hs : setF n b (t : Int) L = n L := by unfold setF; rw [if_neg (by omega)]
      rw [hs, if_pos h, if_pos (show b < L + 1 by omega)]
      omega
    · subst h
      have hs : setF n b (t : Int) b = t := by unfold setF; rw [if_pos rfl]
      rw [hs, if_neg (show ¬ b < b by omega), if_pos (show b < b + 1 by omega)]
      omega
    · have hs : setF n b (t : Int) L = n L := by unfold setF; rw [if_neg (by omega)]
      rw [hs, if_neg (show ¬ b < L by omega), if_neg (show ¬ b < L + 1 by omega)]
      omega
/-- one move makes the spread no greater -/
theorem step_less {q n k : Nat → Int} {L N : Nat} (hok : LdOk q n k L N) (b : Nat) (hb : b < L) (hf : n b = ((endTo (sumTo n k L) N).1 : Int)) (_ : k b ≠ 0) (hD : k b < spread (sumTo n k L) N) :
    spread (sumTo (setF n b (endTo (sumTo n k L) N).2) k L) N ≤ spread (sumTo n k L) N ∧ (endTo (sumTo n k L) N).1 ≠ (endTo (sumTo n k L) N).2 := by
  have hk := hok.ks b hb
  have hx := endTo_ext (sumTo n k L) N
  unfold spread at hD
  have hne : (endTo (sumTo n k L) N).1 ≠ (endTo (sumTo n k L) N).2 := fun e => by rw [e] at hD; omega
  refine ⟨?_, hne⟩
  refine Int.le_trans (spread_le _ N hok.n1 (sumTo n k L (endTo (sumTo n k L) N).2) (sumTo n k L (endTo (sumTo n k L) N).1) (fun x hxN => ?_)) (Int.le_refl _)
  obtain ⟨a1, a2⟩ := hx x hxN
  rw [sumTo_moved, if_pos hb, hf]
  by_cases e1 : (endTo (sumTo n k L) N).2 = x
  · rw [if_pos (by rw [e1]), if_neg (by omega)]
    rw [← e1]
    omega
  · rw [if_neg (by omega)]
    by_cases e2 : (endTo (sumTo n k L) N).1 = x
    · rw [if_pos (by rw [e2])]
      rw [← e2]
      omega
    · rw [if_neg (by omega)]
      omega
theorem runP_len (q k : Nat → Int) (L N : Nat) : ∀ m n gone, (runP q k L N m n gone).length ≤ m
  | 0, _, _ => by simp [runP]
  | m + 1, n, gone => by
    unfold runP
    dsimp only
    split
    · simp
    · simp only [List.length_cons]
      have := runP_len q k L N m (setF n (bestTo gone n k (endTo (sumTo n k L) N).1 (spread (sumTo n k L) N) L).toNat (endTo (sumTo n k L) N).2) (setF gone (bestTo gone n k (endTo (sumTo n k L) N).1 (spread (sumTo n k L) N) L).toNat true)
      omega
/-- the first plan of a run -/
theorem runP_cons {q k : Nat → Int} {L N m : Nat} {n : Nat → Int} {gone : Nat → Bool} {p : Int × Int × Int} {rest : List (Int × Int × Int)} (hok : LdOk q n k L N) (h : runP q k L N m n gone = p :: rest) :
    ∃ b m', b < L ∧ p = (q b, ((endTo (sumTo n k L) N).1 : Int), ((endTo (sumTo n k L) N).2 : Int)) ∧ gone b = false ∧ n b = ((endTo (sumTo n k L) N).1 : Int) ∧ k b ≠ 0 ∧ (endTo (sumTo n k L) N).1 ≠ (endTo (sumTo n k L) N).2 ∧
      rest = runP q k L N m' (setF n b (endTo (sumTo n k L) N).2) (setF gone b true) ∧ spread (sumTo (setF n b (endTo (sumTo n k L) N).2) k L) N ≤ spread (sumTo n k L) N := by
  cases m with
  | zero => simp [runP] at h
  | succ m =>
    rcases bestTo_rng gone n k (endTo (sumTo n k L) N).1 (spread (sumTo n k L) N) L with hb | ⟨b, hb, hbe, h1, h2, h3, h4⟩
    · rw [runP_stop (by omega)] at h
      cases h
    · rw [runP_go hbe] at h
      injection h with e1 e2
      obtain ⟨s1, s2⟩ := step_less hok b hb h2 h3 h4
      exact ⟨b, m, hb, e1.symm, h1, h2, h3, s2, e2.symm, s1⟩
theorem runP_take (q k : Nat → Int) (L N : Nat) : ∀ y x n gone, y ≤ x → runP q k L N y n gone = (runP q k L N x n gone).take y
  | 0, _, _, _, _ => by simp [runP]
  | y + 1, 0, _, _, h => by omega
  | y + 1, x + 1, n, gone, h => by
    unfold runP
    dsimp only
    split
    · simp
    · rw [List.take_succ_cons, runP_take q k L N y x _ _ (by omega)]
theorem bestTo_none (gone : Nat → Bool) (n k : Nat → Int) (f D : Int) : ∀ L, (∀ i, i < L → D ≤ k i) → bestTo gone n k f D L = -1
  | 0, _ => rfl
  | L + 1, h => by
    rw [bestTo_succ, if_pos (.inr (.inr (.inr (h L (by omega)))))]
    exact bestTo_none gone n k f D L (fun i hi => h i (by omega))
/-- what 'behind' makes where the queues are the places -/
theorem beh_setF (n : Nat → Int) (b L : Nat) (f t : Int) (hb : b < L) (hn : n b = f) : behN qOf n (qOf b) f t L = setF n b t := by
  funext x
  unfold behN setF qOf
  by_cases h : x = b
  · subst h; rw [if_pos ⟨hb, rfl, hn⟩, if_pos rfl]
  · rw [if_neg (fun e => h (by omega)), if_neg h]
theorem ldOk_src (rows : List (List Int)) (N L : Nat) (hL : L ≤ 4) (h1 : 1 ≤ N) (h5 : N ≤ 5) : LdOk qOf (nOf rows N) (kOf rows) L N := by
  refine ⟨hL, h1, h5, fun i hi => ?_, fun i hi => ?_, fun i hi => ?_⟩
  · unfold lastQ qOf
    split <;> omega
  · exact ⟨pick_lo _ N (by omega), pick_hi _ N (by omega)⟩
  · have a := pick_lo ((rows.getD i []).getD 1 0) 100 (by omega)
    have b := pick_hi ((rows.getD i []).getD 1 0) 100 (by omega)
    exact ⟨a, by unfold kOf; omega⟩

end Go.Proofs.Ytcbpgmpbjcknbaa
