/- Clients: Send where the first that waits is too far behind: full. -/
import Derived.Test.YtcbpgmpbjcknbaaCliSend
namespace Go.Proofs.Ytcbpgmpbjcknbaa
open Go.RowKit

def Puts3 (w : World) (u v x : Value) (e : Ending) (w' : World) : Prop := e = .returned (.tuple #[u, v, x]) ∧ Below w.heap.size w w'

set_option maxHeartbeats 2000000 in
theorem csend_full (p nx body : Int) (A : Option Addr) (n c B : Nat) (ws : List (Int × Int)) (f : Nat → Int) (w : World) (h : ClOk p nx ws f) (hl : ws.length = n) (hn : n ≤ 100) (hr : Reads w B 6 A n (evRow p ws)) (hB : B ≤ w.heap.size)
    (hnx : nx < 1073741824) (hn1 : 0 < n) (hfirst : 8 ≤ nx - (ws.getD 0 (0, 0)).1) (hb0 : 0 ≤ body) (hb1 : body ≤ 1000000) :
    Calls Try.prog 18 #[.agg (cliCells p nx (.slice A n c) f), .int .i64 body] w (Puts3 w (.agg (cliCells 0 0 (.slice none 0 0) (fun _ => 0))) (.agg #[.int .i64 0, .int .i64 0, .int .i64 0, .int .i64 0, .int .i64 0, .int .i64 0]) (.int .i64 14)) := by
  have CC := Lib.hid (fun W hr hb => ccheck_ok p nx A n c B ws f W h hl hn hr hb)
  have hn0 := h.n0
  have hid := fun k hk => h.ids k hk
  have HP := Lib.hid (show ∀ w', Below w.heap.size w w' → Puts3 w (.agg (cliCells 0 0 (.slice none 0 0) (fun _ => 0))) (.agg #[.int .i64 0, .int .i64 0, .int .i64 0, .int .i64 0, .int .i64 0, .int .i64 0]) (.int .i64 14) (.returned (.tuple #[.agg (cliCells 0 0 (.slice none 0 0) (fun _ => 0)), .agg #[.int .i64 0, .int .i64 0, .int .i64 0, .int .i64 0, .int .i64 0, .int .i64 0], .int .i64 14])) w' from fun w' h => ⟨rfl, h⟩)
  generalize Puts3 w (.agg (cliCells 0 0 (.slice none 0 0) (fun _ => 0))) (.agg #[.int .i64 0, .int .i64 0, .int .i64 0, .int .i64 0, .int .i64 0, .int .i64 0]) (.int .i64 14) = POST at *
  obtain ⟨E, F, G, bel⟩ := blk3' w 46 46 58 (cliCells p nx (.slice A n c) f) (cliCells 0 0 (.slice none 0 0) (fun _ => 0)) #[.int .i64 0, .int .i64 0, .int .i64 0, .int .i64 0, .int .i64 0, .int .i64 0]
  have hr2 := ((hr.alloc hB (.cells (cliCells p nx (.slice A n c) f) 46)).alloc (by simp; omega) (.cells (cliCells 0 0 (.slice none 0 0) (fun _ => 0)) 46)).alloc (by simp; omega) (.cells #[.int .i64 0, .int .i64 0, .int .i64 0, .int .i64 0, .int .i64 0, .int .i64 0] 58)
  clear h hr
  go_enter Try.func18, Try.ntmps18
  unfold cliCells at *
  go_wp2_with fail
  refine (CC.out _ hr2 (by simp; omega)).mono ?_
  rintro e w1 ⟨rfl, b1⟩
  have E1 := E.below b1 E.lt
  have F1 := F.below b1 F.lt
  have G1 := G.below b1 G.lt
  have bel1 := bel.trans (b1.mono (by simp; omega))
  have hr3 := hr2.below (b1.mono (by simp; omega))
  have hq1 := bel1.size
  clear CC E F G bel b1 hr2
  have x0 := E1.cell 0
  have x1 := E1.cell 1
  have x2 := E1.cell 2
  have x3 := E1.cell 3
  have x4 := E1.cell 4
  have x5 := E1.cell 5
  have x6 := E1.cell 6
  have z3 := G1.lt
  have hc1 : ¬ body < 0 := by omega
  have hc2 : ¬ 1000000 < body := by omega
  have hc3 : ¬ nx = 1073741824 := by omega
  obtain ⟨b, off, hA, hb, y0, y1, y2, y3, y4, y5⟩ := evAt hl hr3 hn1
  subst hA
  simp only [Nat.zero_mul, Nat.add_zero] at y2
  obtain ⟨d0, d1, d2, _⟩ := hid 0 (by omega)
  generalize (ws.getD 0 (0, 0)).1 = id0 at *
  have hbw : b < w1.heap.size := by omega
  have hNI : (0 : Int) < (n : Int) := by omega
  have i1 : IntKind.i64.wrap (nx - id0) = nx - id0 := IntWalk.i64_in _ (by omega)
  have hc4 : (nx == 1073741824) = false := by rw [beq_eq_false_iff_ne]; exact hc3
  clear hid hl hc3 y0 y1 y3 y4 y5 hr3
  go_wp2_with fail
  go_quiet (fail)
  have E2 : Blk (w1.drewN nq) w.heap.size 46 _ := E1.drewN nq
  have F2 : Blk (w1.drewN nq) (w.heap.size + 1) 46 _ := F1.drewN nq
  have G2 : Blk (w1.drewN nq) (w.heap.size + 1 + 1) 58 _ := G1.drewN nq
  have bel2 := below_drewN bel1 nq
  have hq2 : w.heap.size ≤ (w1.drewN nq).heap.size := hq1
  generalize w1.drewN nq = w2 at *
  clear x0 x1 x2 x3 x4 x5 x6 z3 E1 F1 G1 bel1 hq1
  have y0 := G2.cell 0
  have y1 := G2.cell 1
  have y3 := G2.cell 2
  have y4 := G2.cell 3
  have y5 := G2.cell 4
  have y6 := G2.cell 5
  have x0 := F2.cell 0
  have x1 := F2.cell 1
  have x2 := F2.cell 2
  have x3 := F2.cell 3
  have x4 := F2.cell 4
  have x5 := F2.cell 5
  have x6 := F2.cell 6
  have z1 := E2.lt
  have z2 := F2.lt
  have z3 := G2.lt
  have fF := F2.frozen
  have fG := G2.frozen
  have hbel := putFrom_below (g := w.heap.size + 1 + 1) (by omega) [.int .i64 0, .int .i64 0, .int .i64 0, .int .i64 0, .int .i64 0, .int .i64 0] 0 _ (putFrom_below (g := w.heap.size + 1) (by omega) [.int .i64 0, .int .i64 0, .slice none 0 0, .int .i64 0, .int .i64 0, .int .i64 0, .int .i64 0] 0 _ bel2)
  have hfin := HP.out _ hbel
  clear hbel HP
  go_wp2_with fail
  exact bodyPost_ret (v := .tuple #[.agg #[.int .i64 0, .int .i64 0, .slice none 0 0, .int .i64 0, .int .i64 0, .int .i64 0, .int .i64 0], .agg #[.int .i64 0, .int .i64 0, .int .i64 0, .int .i64 0, .int .i64 0, .int .i64 0], .int .i64 14]) (by simp [results, Try.results18, go_sem, *]) rfl (by rw [put7_eq, put6_eq]; exact hfin)

end Go.Proofs.Ytcbpgmpbjcknbaa
