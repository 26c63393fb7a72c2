/- Plans: 'behind', 'busy'. -/
import Derived.Test.YtcbpgmpbjcknbaaPlanSrc
namespace Go.Proofs.Ytcbpgmpbjcknbaa
open Go.RowKit

def behN (q n : Nat → Int) (a f t : Int) (i : Nat) : Nat → Int := fun x => if x < i ∧ q x = a ∧ n x = f then t else n x
theorem behN_zero (q n : Nat → Int) (a f t : Int) : behN q n a f t 0 = n := by funext x; simp [behN]
theorem behN_at (q n : Nat → Int) (a f t : Int) (i : Nat) : behN q n a f t i i = n i := by simp [behN]
theorem behN_yes (q n : Nat → Int) (a f t : Int) (i : Nat) (h1 : q i = a) (h2 : n i = f) : setF (behN q n a f t i) i t = behN q n a f t (i + 1) := by
  funext x
  unfold setF behN
  by_cases hx : x = i
  · subst hx; rw [if_pos rfl, if_pos ⟨by omega, h1, h2⟩]
  · rw [if_neg hx]
    by_cases hc : x < i ∧ q x = a ∧ n x = f
    · rw [if_pos hc, if_pos ⟨by omega, hc.2⟩]
    · rw [if_neg hc, if_neg (fun h => hc ⟨by omega, h.2⟩)]
theorem behN_no (q n : Nat → Int) (a f t : Int) (i : Nat) (h : ¬ (q i = a ∧ n i = f)) : behN q n a f t i = behN q n a f t (i + 1) := by
  funext x
  unfold behN
  by_cases hc : x < i ∧ q x = a ∧ n x = f
  · rw [if_pos hc, if_pos ⟨by omega, hc.2⟩]
  · rw [if_neg hc, if_neg (fun h' => hc ⟨by
      rcases (show x < i ∨ x = i by omega) with h2 | h2
      · exact h2
      · subst h2; exact absurd h'.2 h, h'.2⟩)]

theorem Now.drewN {w : World} {base L : Nat} {A : Option Addr} {xs : List Value} (h : Now w base A L xs) (n : Nat) : Now (w.drewN n) base A L xs := h
def BehPost (w : World) (L : Nat) (xs : List Value) (e : Ending) (w' : World) : Prop :=
  ∃ A c, e = .returned (.slice A L c) ∧ L ≤ c ∧ Now w' w.heap.size A L xs ∧ Below w.heap.size w w'

set_option maxRecDepth 100000 in
set_option maxHeartbeats 4000000 in
theorem behind_ok (A : Option Addr) (L c B : Nat) (q n k : Nat → Int) (a f t : Int) (w : World) (hL : L ≤ 4) (hr : Reads w B 3 A L (ldCells q n k L)) (hB : B ≤ w.heap.size) :
    Calls Try.prog 14 #[.slice A L c, .agg #[.int .i64 a, .int .i64 f, .int .i64 t]] w (BehPost w L (ldCells q (behN q n a f t L) k L)) := by
  obtain ⟨i0, hi0, hz0, hz1, hz2⟩ := info_parts ld_info
  have HP := Lib.hid (show ∀ A c w', L ≤ c → Now w' w.heap.size A L (ldCells q (behN q n a f t L) k L) → Below w.heap.size w w' → BehPost w L (ldCells q (behN q n a f t L) k L) (.returned (.slice A L c)) w' from fun A c w' a b d => ⟨A, c, rfl, a, b, d⟩)
  generalize BehPost w L (ldCells q (behN q n a f t L) k L) = POST at *
  have BZ := behN_zero q n a f t
  have BA := Lib.hid (behN_at q n a f t)
  have BY := Lib.hid (behN_yes q n a f t)
  have BN := Lib.hid (behN_no q n a f t)
  have hrB := hr.alloc hB (.cells #[.int .i64 a, .int .i64 f, .int .i64 t] 35)
  have PB := Blk.new w 35 #[.int .i64 a, .int .i64 f, .int .i64 t]
  have bel0 := (Below.refl w.heap.size w).alloc (Nat.le_refl _) (.cells #[.int .i64 a, .int .i64 f, .int .i64 t] 35)
  clear hr
  go_enter Try.func14, Try.ntmps14
  go_wp2_with (at_builtin; go_loud (refine wpList_append_any _ rfl (.const (.slice none 0 0)) (.tmp 7) _ rfl w.heap.size 37 i0 _ 3 24 Try.underlying24 hi0 hz0 hz1 hz2 rfl (by omega) (.slice none 0 0) 0 [] rfl (World.ownsRow_nil _ _ _ _) B A L c (ldCells q n k L) rfl hrB (rowCells_one _) (by simp only [maxLen]; omega) (by omega) (by simp) ?_; intro v2 w2 o2 g2 at2))
  rw [List.nil_append, Nat.zero_add] at o2
  have PB2 := PB.grown g2 (by simp [Value.ownBlock])
  have bel2 := bel0.grown g2 (by simp) (by simp [Value.ownBlock])
  clear PB bel0 hrB g2 at2
  obtain ⟨A2, c2, rfl, hc2, NW⟩ := own_now o2
  clear o2
  have hgp : w.heap.size < w2.heap.size := PB2.lt
  go_loopw [6] (fun s6 wr => ∃ i : Nat, i ≤ L ∧ s6 = .int .i64 i ∧ Now wr w.heap.size A2 L (ldCells q (behN q n a f t i) k L) ∧ Blk wr w.heap.size 35 #[.int .i64 a, .int .i64 f, .int .i64 t] ∧ Below w.heap.size w wr) (fun s6 _ => L - (intOf s6).toNat)
  case atStart => exact ⟨0, Nat.zero_le _, rfl, by rw [BZ]; exact NW, PB2, bel2⟩
  case round =>
    clear NW PB2 bel2 BZ
    obtain ⟨i, hi, rfl, NW, PB, bel⟩ := hrel
    by_cases hlt : i < L
    · obtain ⟨g, hA, hg, R⟩ := NW.2 (by omega)
      subst hA
      have y0 := R.cell (ldCells_at q (behN q n a f t i) k L i 0 hlt (by omega))
      have y1 := R.cell (ldCells_at q (behN q n a f t i) k L i 1 hlt (by omega))
      simp only [List.getD_cons_zero, List.getD_cons_succ, Nat.add_zero] at y0 y1
      rw [BA.out i] at y1
      have p0 := PB.cell 0
      have p1 := PB.cell 1
      have p2 := PB.cell 2
      have zg := R.lt
      have zp := PB.lt
      have nep := R.ne_ PB (by decide)
      have zf := R.frozen
      have hI : (i : Int) < (L : Int) := by omega
      have i2 : IntKind.i64.wrap ((i : Int) + 1) = (i : Int) + 1 := IntWalk.i64_in _ (by omega)
      by_cases hq : q i = a
      · by_cases hn : n i = f
        · have BY' := Lib.hid (BY.out i hq hn)
          rw [hq] at y0
          rw [hn] at y1
          clear BA BY BN NW hq hn HP
          go_wp2_with fail
          go_quiet (fail)
          have R4 : RowAt (wr.drewN nq) g 37 _ := R.drewN nq
          have PB4 : Blk (wr.drewN nq) w.heap.size 35 _ := PB.drewN nq
          have bel4 := below_drewN bel nq
          generalize wr.drewN nq = w4 at *
          have R5 := R4.set_ (i * 3 + 1) (by rw [ldCells_len]; omega) (.int .i64 t)
          rw [ldCells_set _ _ _ _ _ _ hlt, BY'.out] at R5
          have PB5 := PB4.far (p := ⟨g, i * 3 + 1, none⟩) (fun e => nep e.symm) (.int .i64 t)
          have bel5 := bel4.setCell (p := ⟨g, i * 3 + 1, none⟩) hg (.int .i64 t)
          have y1 := R4.cell (ldCells_at q _ k L i 1 hlt (by omega))
          have p2 := PB4.cell 2
          have zf := R4.frozen
          clear R4 PB4 bel4 BY' R PB bel
          go_wp2_with fail
          go_roundw
          case rel => exact ⟨i + 1, by omega, by go_num, ⟨ldCells_len _ _ _ _, fun _ => ⟨g, rfl, hg, R5⟩⟩, PB5, bel5⟩
          case measure => simp [intOf]; omega
        · have BN' := Lib.hid (BN.out i (fun h => hn h.2))
          rw [hq] at y0
          generalize n i = ni at *
          have e1 : (ni == f) = false := by rw [beq_eq_false_iff_ne]; assumption
          have e2 : (ni != f) = true := by rw [bne_iff_ne]; assumption
          have e3 : decide (ni = f) = false := by rw [decide_eq_false_iff_not]; assumption
          clear hn hq
          rw [BN'.out] at NW
          clear BA BY BN BN' HP R
          go_wp2_with fail
          go_quiet (fail)
          go_wp2_with fail
          go_roundw
          case rel => exact ⟨i + 1, by omega, by go_num, NW.drewN nq, PB.drewN nq, below_drewN bel nq⟩
          case measure => simp [intOf]; omega
      · have BN' := Lib.hid (BN.out i (fun h => hq h.1))
        generalize q i = qi at *
        have e1 : (qi == a) = false := by rw [beq_eq_false_iff_ne]; assumption
        have e2 : (qi != a) = true := by rw [bne_iff_ne]; assumption
        have e3 : decide (qi = a) = false := by rw [decide_eq_false_iff_not]; assumption
        clear hq
        rw [BN'.out] at NW
        clear BA BY BN BN' HP R
        go_wp2_with fail
        go_quiet (fail)
        go_wp2_with fail
        go_roundw
        case rel => exact ⟨i + 1, by omega, by go_num, NW.drewN nq, PB.drewN nq, below_drewN bel nq⟩
        case measure => simp [intOf]; omega
    · obtain rfl : i = L := by omega
      have HP' := Lib.hid (HP.out _ _ _ hc2 NW bel)
      clear HP BA BY BN
      go_wp2_with fail
      exact HP'.out

end Go.Proofs.Ytcbpgmpbjcknbaa
