/- Plans: 'sums', 'ends', 'Spread'. -/
import Derived.Test.YtcbpgmpbjcknbaaPlan
namespace Go.Proofs.Ytcbpgmpbjcknbaa
open Go.RowKit

/-- the work of the first loads at a node -/
def sumTo (n k : Nat → Int) : Nat → Nat → Int
  | 0, _ => 0
  | i + 1, x => sumTo n k i x + if n i = (x : Int) then k i else 0
theorem sumTo_bd (n k : Nat → Int) (L : Nat) (hk : ∀ i, i < L → 0 ≤ k i ∧ k i ≤ 1000) : ∀ (i x : Nat), i ≤ L → 0 ≤ sumTo n k i x ∧ sumTo n k i x ≤ 1000 * i
  | 0, x, _ => by simp [sumTo]
  | i + 1, x, h => by
    obtain ⟨a, b⟩ := sumTo_bd n k L hk i x (by omega)
    obtain ⟨c, d⟩ := hk i (by omega)
    unfold sumTo
    split <;> constructor <;> push_cast <;> omega
theorem sumTo_set (n k : Nat → Int) (i x : Nat) (h : n i = (x : Int)) : setF (sumTo n k i) x (sumTo n k i x + k i) = sumTo n k (i + 1) := by
  funext y
  unfold setF
  conv => rhs; unfold sumTo
  split
  · rename_i hy; subst hy; rw [if_pos h]
  · rename_i hy; rw [if_neg (by rw [h]; omega)]; omega
/-- the node with the most work of the first ones, and the one with the least -/
def endTo (h : Nat → Int) : Nat → Nat × Nat
  | 0 => (0, 0)
  | i + 1 => (if h i > h (endTo h i).1 then i else (endTo h i).1, if h i < h (endTo h i).2 then i else (endTo h i).2)
theorem endTo_lt (h : Nat → Int) : ∀ i, (endTo h i).1 ≤ i ∧ (endTo h i).2 ≤ i ∧ (0 < i → (endTo h i).1 < i ∧ (endTo h i).2 < i)
  | 0 => by simp [endTo]
  | i + 1 => by
    obtain ⟨a, b, c⟩ := endTo_lt h i
    unfold endTo
    refine ⟨?_, ?_, fun _ => ⟨?_, ?_⟩⟩
    all_goals (dsimp only; split <;> omega)
def SumsPost (w : World) (n k : Nat → Int) (L N : Nat) (e : Ending) (w' : World) : Prop :=
  ∃ g, e = .returned (.slice (some ⟨g, 0, none⟩) N N) ∧ w.heap.size ≤ g ∧ Blk w' g 3 (hRow (sumTo n k L) N) ∧ Below w.heap.size w w'

theorem int_info : (Try.prog.info? 3).map (fun i => (i.zero, i.size, i.bytes)) = some (some (.int .i64 0), 1, 8) := by kernel_rfl
theorem bool_info : (Try.prog.info? 4).map (fun i => (i.zero, i.size, i.bytes)) = some (some (.bool false), 1, 1) := by kernel_rfl

set_option maxRecDepth 100000 in
set_option maxHeartbeats 2000000 in
theorem sums_ok (A : Option Addr) (L c B : Nat) (q n k : Nat → Int) (N : Nat) (w : World) (h : LdOk q n k L N) (hc : L ≤ c) (hr : Reads w B 3 A L (ldCells q n k L)) (hB : B ≤ w.heap.size) :
    Calls Try.prog 22 #[.slice A L c, .int .i64 N] w (SumsPost w n k L N) := by
  obtain ⟨hL, hN1, hN5, hq, hn, hk⟩ := h
  have hmk := run_make_row' (P := Try.prog) 69 3 (.int .i64 0) 8 Try.underlying69 int_info rfl .i64 .i64 N (by omega) (by omega)
  rw [made_hRow] at hmk
  have HBD := Lib.hid (sumTo_bd n k L hk)
  have HN := Lib.hid hn
  have HK := Lib.hid hk
  have HS := Lib.hid (sumTo_set n k)
  have HP := Lib.hid (show ∀ g w', w.heap.size ≤ g → Blk w' g 3 (hRow (sumTo n k L) N) → Below w.heap.size w w' → SumsPost w n k L N (.returned (.slice (some ⟨g, 0, none⟩) N N)) w' from fun g w' a b c => ⟨g, rfl, a, b, c⟩)
  generalize SumsPost w n k L N = POST at *
  clear hq hn hk
  have E0 := Blk.new w 3 (hRow (fun _ => 0) N)
  have bel0 := (Below.refl w.heap.size w).alloc (Nat.le_refl _) (.cells (hRow (fun _ => 0) N) 3)
  go_enter Try.func22, Try.ntmps22
  go_wp2_with fail
  obtain ⟨gh, hgh⟩ : ∃ gh, gh = w.heap.size := ⟨_, rfl⟩
  rw [← hgh] at E0
  go_loopw [12] (fun s12 wr => ∃ i : Nat, i ≤ L ∧ s12 = .int .i64 i ∧ Blk wr w.heap.size 3 (hRow (sumTo n k i) N) ∧ Below w.heap.size w wr) (fun s12 _ => L - (intOf s12).toNat)
  case atStart => exact ⟨0, Nat.zero_le _, rfl, hgh ▸ E0, bel0⟩
  case round =>
    clear E0 bel0 hgh hmk
    obtain ⟨i, hi, rfl, E, bel⟩ := hrel
    by_cases hlt : i < L
    · obtain ⟨b, off, rfl, hb, y0, y1, y2⟩ := ldAt (hr.below (bel.mono hB)) hlt hc
      obtain ⟨a2, a3⟩ := HN.out i hlt
      obtain ⟨a4, a5⟩ := HK.out i hlt
      obtain ⟨X, hX⟩ := Int.eq_ofNat_of_zero_le a2
      have hSE := Lib.hid (HS.out i X hX)
      obtain ⟨b0, b1⟩ := HBD.out i X (by omega)
      have q1 := (E.cell X).trans (hRow_at _ N X (by omega))
      have i3 : IntKind.i64.wrap (sumTo n k i X + k i) = sumTo n k i X + k i := IntWalk.i64_in _ (by omega)
      rw [hX] at y1 a2 a3
      have E5 := E.set_ X (.int .i64 (sumTo n k i X + k i))
      rw [hRow_set _ N X _ (by omega), hSE.out] at E5
      generalize sumTo n k i X = sv at *
      generalize q i = id at *
      generalize k i = wk at *
      have hs := bel.size
      have zb : b < wr.heap.size := by omega
      have zg := E.lt
      have zf := E.frozen
      have hI : (i : Int) < (L : Int) := by omega
      have hXN : X < N := by omega
      have hXI : (X : Int) < (N : Int) := by omega
      have i2 : IntKind.i64.wrap ((i : Int) + 1) = (i : Int) + 1 := IntWalk.i64_in _ (by omega)
      have bel2 := (bel.setCell (p := ⟨w.heap.size, X, none⟩) (Nat.le_refl _) (.int .i64 (sv + wk))).alloc (by simp; omega) (.cells #[.int .i64 id, .int .i64 X, .int .i64 wk] 37)
      have ne1 : ¬ w.heap.size = wr.heap.size := by omega
      have ne2 : ¬ wr.heap.size = w.heap.size := by omega
      clear hr HN HK HBD HS hX hSE
      go_wp2_with fail
      go_region
      all_goals
        go_wp2_with fail
        go_round
        case rel => exact ⟨i + 1, by omega, by go_num, (E5.alloc (.cells #[.int .i64 id, .int .i64 X, .int .i64 wk] 37)).drew, bel2.drew⟩
        case measure => simp [intOf]; omega
    · obtain rfl : i = L := by omega
      go_wp2_with fail
      exact HP.out _ _ (Nat.le_refl _) E bel

/-- what 'ends' answers -/
theorem ends_ok (g N : Nat) (h : Nat → Int) (w : World) (hN : 1 ≤ N) (hN5 : N ≤ 5) (E : Blk w g 3 (hRow h N)) :
    Calls Try.prog 23 #[.slice (some ⟨g, 0, none⟩) N N] w (PutsP w (.tuple #[.int .i64 (endTo h N).1, .int .i64 (endTo h N).2])) := by
  have hlt := Lib.hid (endTo_lt h)
  have hat := Lib.hid (fun i (hi : i < N) => (E.cell i).trans (hRow_at h N i hi))
  have hE := Lib.hid (show ∀ i, endTo h (i + 1) = (if h i > h (endTo h i).1 then i else (endTo h i).1, if h i < h (endTo h i).2 then i else (endTo h i).2) from fun _ => rfl)
  go_enter Try.func23, Try.ntmps23
  go_wp2_with fail
  go_loop [2, 3, 8] (fun s2 s3 s8 => ∃ i : Nat, i ≤ N ∧ s8 = .int .i64 i ∧ s2 = .int .i64 (endTo h i).1 ∧ s3 = .int .i64 (endTo h i).2) (fun _ _ s8 => N - (intOf s8).toNat)
  case atStart => exact ⟨0, Nat.zero_le _, rfl, rfl, rfl⟩
  case round =>
  obtain ⟨i, hi, rfl, rfl, rfl⟩ := hrel
  by_cases hlt' : i < N
  · obtain ⟨a, b, c⟩ := hlt.out i
    have hEi := hE.out i
    have y0 := hat.out i hlt'
    have y1 := hat.out (endTo h i).1 (by rcases Nat.eq_zero_or_pos i with h0 | h0; omega; have := (c h0).1; omega)
    have y2 := hat.out (endTo h i).2 (by rcases Nat.eq_zero_or_pos i with h0 | h0; omega; have := (c h0).2; omega)
    have hm : (endTo h i).1 < N := (by rcases Nat.eq_zero_or_pos i with h0 | h0; omega; have := (c h0).1; omega)
    have hl : (endTo h i).2 < N := (by rcases Nat.eq_zero_or_pos i with h0 | h0; omega; have := (c h0).2; omega)
    generalize (endTo h i).1 = m at *
    generalize (endTo h i).2 = l at *
    have hI : (i : Int) < (N : Int) := by omega
    have hmI : (m : Int) < (N : Int) := by omega
    have hlI : (l : Int) < (N : Int) := by omega
    have i2 : IntKind.i64.wrap ((i : Int) + 1) = (i : Int) + 1 := IntWalk.i64_in _ (by omega)
    generalize h i = hi' at *
    generalize h m = hm' at *
    generalize h l = hl' at *
    clear hat hlt hE a b c
    by_cases c1 : hm' < hi'
    · have e1 : (endTo h (i + 1)).1 = i := by rw [hEi]; dsimp only; rw [if_pos (by omega)]
      by_cases c2 : hi' < hl'
      · have e2 : (endTo h (i + 1)).2 = i := by rw [hEi]; dsimp only; rw [if_pos (by omega)]
        have e1' := Lib.hid e1
        have e2' := Lib.hid e2
        clear e1 e2 hEi
        go_wp2_with fail
        go_round
        case rel => exact ⟨i + 1, by omega, by go_num, by rw [e1'.out], by rw [e2'.out]⟩
        case measure => simp [intOf]; omega
      · have e2 : (endTo h (i + 1)).2 = l := by rw [hEi]; dsimp only; rw [if_neg (by omega)]
        have e1' := Lib.hid e1
        have e2' := Lib.hid e2
        clear e1 e2 hEi
        go_wp2_with fail
        go_round
        case rel => exact ⟨i + 1, by omega, by go_num, by rw [e1'.out], by rw [e2'.out]⟩
        case measure => simp [intOf]; omega
    · have e1 : (endTo h (i + 1)).1 = m := by rw [hEi]; dsimp only; rw [if_neg (by omega)]
      by_cases c2 : hi' < hl'
      · have e2 : (endTo h (i + 1)).2 = i := by rw [hEi]; dsimp only; rw [if_pos (by omega)]
        have e1' := Lib.hid e1
        have e2' := Lib.hid e2
        clear e1 e2 hEi
        go_wp2_with fail
        go_round
        case rel => exact ⟨i + 1, by omega, by go_num, by rw [e1'.out], by rw [e2'.out]⟩
        case measure => simp [intOf]; omega
      · have e2 : (endTo h (i + 1)).2 = l := by rw [hEi]; dsimp only; rw [if_neg (by omega)]
        have e1' := Lib.hid e1
        have e2' := Lib.hid e2
        clear e1 e2 hEi
        go_wp2_with fail
        go_round
        case rel => exact ⟨i + 1, by omega, by go_num, by rw [e1'.out], by rw [e2'.out]⟩
        case measure => simp [intOf]; omega
  · obtain rfl : i = N := by omega
    have HT := Lib.hid hE
    clear hE hlt hat
    go_wp2_with fail
    exact bodyPost_ret (v := .tuple #[.int .i64 (endTo h i).1, .int .i64 (endTo h i).2]) (by simp [results, Try.results23, go_sem, *]) rfl ⟨rfl, Below.refl _ _⟩

def hOf (n k : Nat → Int) (L : Nat) : Nat → Int := sumTo n k L
def spread (h : Nat → Int) (N : Nat) : Int := h (endTo h N).1 - h (endTo h N).2
def SpreadPost (w : World) (s : Int) (e : Ending) (w' : World) : Prop := e = .returned (.tuple #[.int .i64 s, .int .i64 0]) ∧ Below w.heap.size w w'

set_option maxHeartbeats 2000000 in
theorem spread_ok (A : Option Addr) (L c B : Nat) (q n k : Nat → Int) (N : Nat) (w : World) (h : LdOk q n k L N) (hc : L ≤ c) (hr : Reads w B 3 A L (ldCells q n k L)) (hB : B ≤ w.heap.size) :
    Calls Try.prog 12 #[.slice A L c, .int .i64 N] w (SpreadPost w (spread (sumTo n k L) N)) := by
  have CC := Lib.hid (fun W hr hb => pcheck_ok A L c B q n k N W h hc hr hb)
  have CS := Lib.hid (fun W hr hb => sums_ok A L c B q n k N W h hc hr hb)
  have CE := Lib.hid (fun g W E => ends_ok g N (sumTo n k L) W h.n1 h.n5 E)
  have hN1 := h.n1
  have hN5 := h.n5
  obtain ⟨b1, b2, b3⟩ := endTo_lt (sumTo n k L) N
  obtain ⟨b4, b5⟩ := b3 (by omega)
  obtain ⟨v1, v2⟩ := sumTo_bd n k L h.ks L (endTo (sumTo n k L) N).1 (Nat.le_refl _)
  obtain ⟨v3, v4⟩ := sumTo_bd n k L h.ks L (endTo (sumTo n k L) N).2 (Nat.le_refl _)
  have hL := h.hL
  have HP := Lib.hid (show ∀ s w', s = spread (sumTo n k L) N → Below w.heap.size w w' → SpreadPost w (spread (sumTo n k L) N) (.returned (.tuple #[.int .i64 s, .int .i64 0])) w' from fun s w' a b => ⟨by rw [a], b⟩)
  generalize SpreadPost w (spread (sumTo n k L) N) = POST at *
  unfold spread at HP
  obtain ⟨h0, hh0⟩ : ∃ h0, sumTo n k L = h0 := ⟨_, rfl⟩
  rw [hh0] at HP CE b1 b2 b3 b4 b5 v1 v2 v3 v4
  have HH := Lib.hid hh0
  clear h hh0
  go_enter Try.func12, Try.ntmps12
  go_wp2_with fail
  refine (CC.out _ hr hB).mono ?_
  rintro e w1 ⟨rfl, b1'⟩
  have hr1 := hr.below (b1'.mono hB)
  have hs1 := b1'.size
  clear hr CC
  go_wp2_with fail
  refine (CS.out _ hr1 (by omega)).mono ?_
  rintro e w2 ⟨g, rfl, hg, E, b2'⟩
  rw [HH.out] at E
  have bel2 := b1'.trans (b2'.mono hs1)
  clear CS b1' b2' hr1
  go_wp2_with fail
  refine (CE.out g _ E).mono ?_
  rintro e w3 ⟨rfl, b3'⟩
  have E3 := E.below b3' E.lt
  have bel3 := bel2.trans (b3'.mono bel2.size)
  clear E bel2 b3' CE b1 b2 b3
  generalize (endTo h0 N).1 = m at *
  generalize (endTo h0 N).2 = l at *
  have y1 := (E3.cell m).trans (hRow_at h0 N m b4)
  have y2 := (E3.cell l).trans (hRow_at h0 N l b5)
  have hmI : (m : Int) < (N : Int) := by omega
  have hlI : (l : Int) < (N : Int) := by omega
  have i2 : IntKind.i64.wrap (h0 m - h0 l) = h0 m - h0 l := IntWalk.i64_in _ (by omega)
  generalize h0 m = hm at *
  generalize h0 l = hl at *
  go_wp2_with fail
  go_quiet (fail)
  go_wp2_with fail
  exact HP.out _ _ rfl (below_drewN bel3 nq)

end Go.Proofs.Ytcbpgmpbjcknbaa
