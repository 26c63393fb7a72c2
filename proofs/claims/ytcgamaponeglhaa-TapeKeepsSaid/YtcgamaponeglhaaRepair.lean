/- Tapes: Repair; records compared. -/
import Derived.Test.YtcgamaponeglhaaRead
import Derived.BigRegion
namespace Go.Proofs.Ytcgamaponeglhaa
open Go.RowKit

def RepairPost (w : World) (d : List Int) (m : Nat) (s : Int) (e : Ending) (w' : World) : Prop :=
  ∃ A, e = .returned (.tuple #[.agg #[.slice A m m, .int .i64 (min s m)], .int .i64 0]) ∧ Reads w' w'.heap.size 1 A m ((d.take m).map (Value.int .u8)) ∧ Fresh w.heap.size A ∧ Below w.heap.size w w'

set_option maxRecDepth 100000 in
set_option maxHeartbeats 1000000 in
theorem repair_ok (A : Option Addr) (n c B : Nat) (d : List Int) (s : Nat) (w : World) (h : Reads w B 1 A n (d.map (Value.int .u8))) (hn : n ≤ c) (hc : n ≤ 90000) (hB : B ≤ w.heap.size) (h1 : s ≤ n) (hz : ∀ z ∈ d, 0 ≤ z ∧ z ≤ 255) :
    Calls Try.prog 25 #[.agg #[.slice A n c, .int .i64 s]] w (RepairPost w d (readOf d).2 s) := by
  have hl : d.length = n := by simpa using h.1
  have hm := readGo_le d.length d
  change (readOf d).2 ≤ d.length at hm
  have CR := Lib.hid (fun (W : World) (hd : Reads W B 1 A n (d.map (Value.int .u8))) (hb : B ≤ W.heap.size) => read_ok A n c B d s W hd hn hc hb (by omega) (by omega) hz)
  have CO := Lib.hid (fun (W : World) (hd : Reads W B 1 A n (d.map (Value.int .u8))) (hb : B ≤ W.heap.size) => open_ok A n c B d s W hd hn (by omega) hb (by omega) (by omega))
  obtain ⟨m, hm'⟩ : ∃ m, (readOf d).2 = m := ⟨_, rfl⟩
  rw [hm'] at hm ⊢
  have HM := Lib.hid hm'
  clear hm'
  have HP := Lib.hid (show ∀ A w', Reads w' w'.heap.size 1 A m ((d.take m).map (Value.int .u8)) → Fresh w.heap.size A → Below w.heap.size w w' → RepairPost w d m s (.returned (.tuple #[.agg #[.slice A m m, .int .i64 (min (s : Int) m)], .int .i64 0])) w' from fun A w' h1 h2 h3 => ⟨A, rfl, h1, h2, h3⟩)
  obtain ⟨b0, b1, hbel⟩ := blk2 w 45 45 #[.slice A n c, .int .i64 s] #[.slice none 0 0, .int .i64 0]
  have hrd := (h.alloc hB (.cells #[.slice A n c, .int .i64 s] 45)).alloc (by simp; omega) (.cells #[.slice none 0 0, .int .i64 0] 45)
  clear h
  generalize RepairPost w d m s = POST at *
  go_enter Try.func25, Try.ntmps25
  go_wp2_with fail
  refine (CR.out _ hrd (by simp; omega)).mono ?_
  rintro e w1 ⟨u, rfl, _, e1⟩
  rw [HM.out]
  have f0 := b0.below e1 b0.lt
  have f1 := b1.below e1 b1.lt
  have bel1 : Below w.heap.size w w1 := hbel.trans (e1.mono (by simp; omega))
  have hrd1 := hrd.below (e1.mono (by simp; omega))
  have y0 := f0.cell 0
  have y1 := f0.cell 1
  have q1 := bel1.size
  clear b0 b1 hbel e1 CR hrd
  go_wp2_with fail
  refine (CO.out _ hrd1 (by omega)).mono ?_
  rintro e w2 ⟨v2, rfl, o2, e2⟩
  obtain ⟨A1, c1, rfl, hc1, hm1⟩ := own_shape o2
  have f2 := f1.below e2 f1.lt
  have bel2 : Below w.heap.size w w2 := bel1.trans (e2.mono q1)
  have z2 := f2.lt
  have t0 := f2.cell 0
  have t1 := f2.cell 1
  have ft := f2.frozen
  have n1 := own_blk_ne o2 f2 (by decide)
  have hF : Fresh w.heap.size A1 := own_fresh (own_base (base' := w.heap.size) o2 q1)
  clear f0 f1 y0 y1 e2 CO hrd1 bel1
  have FIN : ∀ q : Int, q = min (s : Int) m → POST (.returned (.tuple #[.agg #[.slice A1 m m, .int .i64 q], .int .i64 0])) (((w2.setCell ⟨w.heap.size + 1, 0, none⟩ (.slice A1 m m)).setCell ⟨w.heap.size + 1, 1, none⟩ (.int .i64 q)).alloc (.cells #[.slice A1 n c1, .int .i64 s] 45)).drew := by
    intro q hq
    have o9 := (ownsRow_setCell_other (a := ⟨w.heap.size + 1, 1, none⟩) (ownsRow_setCell_other (a := ⟨w.heap.size + 1, 0, none⟩) o2 n1 (.slice A1 m m)) n1 (.int .i64 q)).alloc (.cells #[.slice A1 n c1, .int .i64 s] 45)
    have hcut := (Reads.of_own o9).take (show m ≤ n by omega)
    rw [Nat.mul_one, ← List.map_take] at hcut
    subst hq
    exact HP.out _ _ hcut.drew hF ((((bel2.setCell (by simp) _).setCell (by simp) _).alloc (by simp; omega) _).drew)
  have FH := Lib.hid FIN
  clear FIN o2 n1 hF HP bel2
  have hmI : (m : Int) ≤ (n : Int) := by omega
  have hcI : (n : Int) ≤ (c1 : Int) := by omega
  by_cases hms : (m : Int) < (s : Int)
  · go_wp2_with fail
    go_region
    all_goals
      go_wp2
      exact bodyPost_ret (v := .tuple #[.agg #[.slice A1 m m, .int .i64 m], .int .i64 0]) (by simp [results, Try.results25, go_sem, t0, t1, z2]) rfl (FH.out _ (by omega))
  · go_wp2_with fail
    go_region
    all_goals
      go_wp2
      exact bodyPost_ret (v := .tuple #[.agg #[.slice A1 m m, .int .i64 s], .int .i64 0]) (by simp [results, Try.results25, go_sem, t0, t1, z2]) rfl (FH.out _ (by omega))

end Go.Proofs.Ytcgamaponeglhaa
