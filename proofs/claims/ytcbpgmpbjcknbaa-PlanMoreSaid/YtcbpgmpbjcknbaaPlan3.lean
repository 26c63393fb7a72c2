/- Plans: rows that are written, the model of 'Balance'. -/
import Derived.Test.YtcbpgmpbjcknbaaPlan2
namespace Go.Proofs.Ytcbpgmpbjcknbaa
open Go.RowKit

def RowAt (w : World) (g : Nat) (t : TypeId) (xs : List Value) : Prop := ∃ cur, Blk w g t cur ∧ ∀ (i : Nat) (u : Value), xs[i]? = some u → cur[i]? = some u
section
variable {w w' : World} {g : Nat} {t : TypeId} {xs : List Value}
theorem RowAt.lt (h : RowAt w g t xs) : g < w.heap.size := by obtain ⟨c, h, _⟩ := h; exact h.lt
theorem RowAt.frozen (h : RowAt w g t xs) (i : Nat) : w.frozen? ⟨g, i, none⟩ = false := by obtain ⟨c, h, _⟩ := h; exact h.frozen i
theorem RowAt.cell (h : RowAt w g t xs) {i : Nat} {u : Value} (hu : xs[i]? = some u) : w.cell? ⟨g, i, none⟩ = some u := by obtain ⟨c, h, h2⟩ := h; exact (h.cell i).trans (h2 i u hu)
theorem RowAt.alloc (h : RowAt w g t xs) (o : Obj) : RowAt (w.alloc o) g t xs := by obtain ⟨c, h, h2⟩ := h; exact ⟨c, h.alloc o, h2⟩
theorem RowAt.drewN (h : RowAt w g t xs) (n : Nat) : RowAt (w.drewN n) g t xs := h
theorem RowAt.below {B : Nat} (h : RowAt w g t xs) (hb : Below B w w') (hg : g < B) : RowAt w' g t xs := by obtain ⟨c, h, h2⟩ := h; exact ⟨c, h.below hb hg, h2⟩
theorem RowAt.far (h : RowAt w g t xs) {p : Addr} (hp : g ≠ p.block) (u : Value) : RowAt (w.setCell p u) g t xs := by obtain ⟨c, h, h2⟩ := h; exact ⟨c, h.far hp u, h2⟩
theorem RowAt.grown {row : Option Nat} (h : RowAt w g t xs) (hb : w.grownBy w' row) (hg : some g ≠ row) : RowAt w' g t xs := by obtain ⟨c, h, h2⟩ := h; exact ⟨c, h.grown hb hg, h2⟩
theorem RowAt.set_ (h : RowAt w g t xs) (i : Nat) (hi : i < xs.length) (x : Value) : RowAt (w.setCell ⟨g, i, none⟩ x) g t (xs.set i x) := by
  obtain ⟨c, h, h2⟩ := h
  refine ⟨_, h.set_ i x, fun j u hu => ?_⟩
  have hc : i < c.size := by
    have := h2 i _ (List.getElem?_eq_getElem hi)
    rcases Nat.lt_or_ge i c.size with h' | h'
    · exact h'
    · rw [Array.getElem?_eq_none h'] at this; cases this
  rw [List.getElem?_set] at hu
  rw [Array.getElem?_setIfInBounds]
  by_cases e : i = j
  · subst e
    rw [if_pos rfl, if_pos hi] at hu
    simp only [if_true, hc]
    exact hu
  · rw [if_neg e] at hu
    rw [if_neg e]
    exact h2 j u hu
theorem RowAt.reads {n size : Nat} (h : RowAt w g t xs) (hl : xs.length = n * size) : Reads w w.heap.size size (some ⟨g, 0, none⟩) n xs :=
  ⟨hl, fun _ => ⟨_, rfl, h.lt, fun j u hu => by rw [show (Addr.mk g 0 none).add j = ⟨g, j, none⟩ by unfold Addr.add; split <;> simp_all]; exact h.cell hu⟩⟩
theorem RowAt.ne_ (h : RowAt w g t xs) {g' : Nat} {t' : TypeId} {cs' : Array Value} (h' : Blk w g' t' cs') (hne : t ≠ t') : g ≠ g' := by obtain ⟨c, h, _⟩ := h; exact h.ne_ h' hne
end

/-- loads of the call's own -/
def Now (w : World) (base : Nat) (A : Option Addr) (L : Nat) (xs : List Value) : Prop :=
  xs.length = L * 3 ∧ (0 < L → ∃ g, A = some ⟨g, 0, none⟩ ∧ base ≤ g ∧ RowAt w g 37 xs)
section
variable {w w' : World} {base L : Nat} {A : Option Addr} {xs : List Value}
theorem Now.reads (h : Now w base A L xs) : Reads w w.heap.size 3 A L xs := by
  refine ⟨h.1, fun h0 => ?_⟩
  obtain ⟨g, rfl, _, hr⟩ := h.2 h0
  exact (hr.reads h.1).2 h0
theorem Now.below {B : Nat} (h : Now w base A L xs) (hb : Below B w w') (hB : w.heap.size ≤ B) : Now w' base A L xs :=
  ⟨h.1, fun h0 => by obtain ⟨g, e, h1, hr⟩ := h.2 h0; exact ⟨g, e, h1, hr.below hb (Nat.lt_of_lt_of_le hr.lt hB)⟩⟩
theorem Now.alloc (h : Now w base A L xs) (o : Obj) : Now (w.alloc o) base A L xs :=
  ⟨h.1, fun h0 => by obtain ⟨g, e, h1, hr⟩ := h.2 h0; exact ⟨g, e, h1, hr.alloc o⟩⟩
theorem Now.far {p : Addr} {t' : TypeId} {cs' : Array Value} (h : Now w base A L xs) (hb : Blk w p.block t' cs') (hne : 37 ≠ t') (u : Value) : Now (w.setCell p u) base A L xs :=
  ⟨h.1, fun h0 => by obtain ⟨g, e, h1, hr⟩ := h.2 h0; exact ⟨g, e, h1, hr.far (hr.ne_ hb hne) u⟩⟩
theorem own_now {v : Value} (h : w.ownsRow base 37 3 v L xs) : ∃ A c, v = .slice A L c ∧ L ≤ c ∧ Now w base A L xs := by
  rcases h.2 with ⟨rfl, rfl⟩ | ⟨g, cap, cur, rfl, hb, hg, hc, _, _, hx⟩
  · exact ⟨_, _, rfl, Nat.le_refl _, h.1, fun h0 => absurd h0 (by omega)⟩
  · refine ⟨_, _, rfl, hc, h.1, fun _ => ⟨g, rfl, hb, cur, hg, fun i u hu => ?_⟩⟩
    subst hx
    rw [List.getElem?_take] at hu
    split at hu
    · simpa using hu
    · cases hu
end

theorem ldCells_set (q n k : Nat → Int) (L b : Nat) (x : Int) (hb : b < L) : (ldCells q n k L).set (b * 3 + 1) (.int .i64 x) = ldCells q (setF n b x) k L := by
  apply List.ext_getElem?
  intro i
  rw [List.getElem?_set, ldCells_len]
  by_cases hi : i < L * 3
  · obtain ⟨a, j, hj, rfl⟩ : ∃ a j, j < 3 ∧ i = a * 3 + j := ⟨i / 3, i % 3, Nat.mod_lt _ (by omega), by omega⟩
    have ha : a < L := by omega
    rw [ldCells_at _ _ _ L a j ha hj, ldCells_at _ _ _ L a j ha hj]
    unfold setF
    rcases (show j = 0 ∨ j = 1 ∨ j = 2 by omega) with rfl | rfl | rfl
    · rw [if_neg (by omega)]; rfl
    · by_cases hab : a = b
      · subst hab
        rw [if_pos rfl, if_pos hi, if_pos rfl]; rfl
      · rw [if_neg (by omega), if_neg hab]
    · rw [if_neg (by omega)]; rfl
  · rw [List.getElem?_eq_none (show (ldCells q (setF n b x) k L).length ≤ i by rw [ldCells_len]; omega), List.getElem?_eq_none (show (ldCells q n k L).length ≤ i by rw [ldCells_len]; omega)]
    split
    · rw [if_neg (by omega)]
    · rfl

/-- which one goes: -1: none -/
def bestTo (gone : Nat → Bool) (n k : Nat → Int) (f D : Int) : Nat → Int
  | 0 => -1
  | i + 1 => if gone i = true ∨ n i ≠ f ∨ k i = 0 ∨ D ≤ k i then bestTo gone n k f D i else if bestTo gone n k f D i < 0 ∨ k (bestTo gone n k f D i).toNat < k i then i else bestTo gone n k f D i
theorem bestTo_rng (gone : Nat → Bool) (n k : Nat → Int) (f D : Int) : ∀ i, bestTo gone n k f D i = -1 ∨ ∃ b : Nat, b < i ∧ bestTo gone n k f D i = b ∧ gone b = false ∧ n b = f ∧ k b ≠ 0 ∧ k b < D
  | 0 => .inl rfl
  | i + 1 => by
    have ih := bestTo_rng gone n k f D i
    unfold bestTo
    split
    · rcases ih with h | ⟨b, hb, h⟩
      · exact .inl h
      · exact .inr ⟨b, by omega, h⟩
    · rename_i hc
      split
      · refine .inr ⟨i, by omega, rfl, ?_, ?_, ?_, ?_⟩
        · cases hg : gone i <;> simp_all
        · by_cases h : n i = f; exact h; exact absurd (.inr (.inl h)) hc
        · intro h; exact hc (.inr (.inr (.inl h)))
        · have : ¬ D ≤ k i := fun h => hc (.inr (.inr (.inr h))); omega
      · rcases ih with h | ⟨b, hb, h⟩
        · exact .inl h
        · exact .inr ⟨b, by omega, h⟩

/-- plans: queue, from, to -/
def runP (q k : Nat → Int) (L N : Nat) : Nat → (Nat → Int) → (Nat → Bool) → List (Int × Int × Int)
  | 0, _, _ => []
  | m + 1, n, gone =>
    let b := bestTo gone n k (endTo (sumTo n k L) N).1 (spread (sumTo n k L) N) L
    if b < 0 then [] else (q b.toNat, ((endTo (sumTo n k L) N).1 : Int), ((endTo (sumTo n k L) N).2 : Int)) :: runP q k L N m (setF n b.toNat (endTo (sumTo n k L) N).2) (setF gone b.toNat true)
theorem runP_stop {q k : Nat → Int} {L N m : Nat} {n : Nat → Int} {gone : Nat → Bool} (h : bestTo gone n k (endTo (sumTo n k L) N).1 (spread (sumTo n k L) N) L < 0) : runP q k L N m n gone = [] := by
  cases m
  · rfl
  · unfold runP; dsimp only; rw [if_pos h]
theorem runP_go {q k : Nat → Int} {L N m : Nat} {n : Nat → Int} {gone : Nat → Bool} {b : Nat} (h : bestTo gone n k (endTo (sumTo n k L) N).1 (spread (sumTo n k L) N) L = b) :
    runP q k L N (m + 1) n gone = (q b, ((endTo (sumTo n k L) N).1 : Int), ((endTo (sumTo n k L) N).2 : Int)) :: runP q k L N m (setF n b (endTo (sumTo n k L) N).2) (setF gone b true) := by
  conv => lhs; unfold runP
  dsimp only
  rw [h, if_neg (by omega)]
  rfl
theorem ldOk_set {q n k : Nat → Int} {L N : Nat} (h : LdOk q n k L N) (b t : Nat) (ht : t < N) : LdOk q (setF n b t) k L N :=
  ⟨h.hL, h.n1, h.n5, h.qs, fun i hi => by unfold setF; split; exact ⟨by omega, by omega⟩; exact h.ns i hi, h.ks⟩
def plCells (ps : List (Int × Int × Int)) : List Value := rowCells (ps.map fun p => [p.1, p.2.1, p.2.2])
theorem plCells_snoc (ps : List (Int × Int × Int)) (a b c : Int) : plCells (ps ++ [(a, b, c)]) = plCells ps ++ [.int .i64 a, .int .i64 b, .int .i64 c] := by
  simp [plCells, rowCells]
theorem plCells_len (ps : List (Int × Int × Int)) : (plCells ps).length = ps.length * 3 := by
  have := rowCells_len 3 (ps.map fun p => [p.1, p.2.1, p.2.2]) (fun r hr => by obtain ⟨x, _, rfl⟩ := List.mem_map.1 hr; rfl)
  unfold plCells
  simpa using this

end Go.Proofs.Ytcbpgmpbjcknbaa
