/- Clients: New, Learn, Ask. -/
import Derived.Test.YtcbpgmpbjcknbaaCliOps
import Derived.Deep.DeepCutAuto
namespace Go.Proofs.Ytcbpgmpbjcknbaa
open Go.RowKit

def newN (k : Nat) (j : Nat) : Int := if j < k then -1 else 0
def Puts2 (w : World) (u v : Value) (e : Ending) (w' : World) : Prop := e = .returned (.tuple #[u, v]) ∧ Below w.heap.size w w'

set_option maxHeartbeats 2000000 in
theorem cnew_ok (p : Int) (w : World) (h0 : 0 ≤ p) (h1 : p ≤ 3) :
    Calls Try.prog 15 #[.int .i64 p] w (Puts2 w (.agg (cliCells p 0 (.slice none 0 0) (fun _ => -1))) (.int .i64 0)) := by
  go_enter Try.func15, Try.ntmps15
  go_wp2_with fail
  obtain ⟨E, F, bel⟩ := blk2 w 46 46 (cliCells 0 0 (.slice none 0 0) (fun _ => 0)) (cliCells p 0 (.slice none 0 0) (newN 0))
  go_loopw [15] (fun i wr => ∃ k : Nat, k ≤ 4 ∧ i = .int .i64 k ∧ Blk wr w.heap.size 46 (cliCells 0 0 (.slice none 0 0) (fun _ => 0)) ∧ Blk wr (w.heap.size + 1) 46 (cliCells p 0 (.slice none 0 0) (newN k)) ∧ Below w.heap.size w wr) (fun i _ => 4 - (intOf i).toNat)
  case atStart => exact ⟨0, by omega, rfl, E, F, bel⟩
  case round =>
    clear E F bel
    obtain ⟨k, hk, rfl, E1, E2, hbel⟩ := hrel
    have z1 := E1.lt
    have z2 := E2.lt
    rcases (show k = 0 ∨ k = 1 ∨ k = 2 ∨ k = 3 ∨ k = 4 by omega) with rfl | rfl | rfl | rfl | rfl
    iterate 4
      · obtain ⟨c0, c1, c2, c3, c4, c5, c6⟩ := cliBlk E2
        have gf := E2.frozen
        go_wp2
        go_roundw
        case rel => first
          | exact ⟨1, by omega, rfl, E1.far (by simp) _, by simpa [cliCells, newN] using E2.set_ 3 (.int .i64 (-1)), hbel.setCell (by simp) _⟩
          | exact ⟨2, by omega, rfl, E1.far (by simp) _, by simpa [cliCells, newN] using E2.set_ 4 (.int .i64 (-1)), hbel.setCell (by simp) _⟩
          | exact ⟨3, by omega, rfl, E1.far (by simp) _, by simpa [cliCells, newN] using E2.set_ 5 (.int .i64 (-1)), hbel.setCell (by simp) _⟩
          | exact ⟨4, by omega, rfl, E1.far (by simp) _, by simpa [cliCells, newN] using E2.set_ 6 (.int .i64 (-1)), hbel.setCell (by simp) _⟩
        case measure => simp [intOf]
    · obtain ⟨c0, c1, c2, c3, c4, c5, c6⟩ := cliBlk E2
      obtain ⟨b0, b1, b2, b3, b4, b5, b6⟩ := cliBlk E1
      have gf := E1.frozen
      simp [newN] at c3 c4 c5 c6
      go_wp2
      exact bodyPost_ret (v := .tuple #[.agg (cliCells p 0 (.slice none 0 0) (fun _ => -1)), .int .i64 0]) (by simp [results, Try.results15, go_sem, cliCells, *]) rfl ⟨rfl, (by (repeat' (first | with_reducible exact hbel | with_reducible refine Below.setCell ?_ ?_ _)) <;> simp)⟩

def LearnPost (w : World) (p nx : Int) (n : Nat) (xs : List Value) (f : Nat → Int) (e : Ending) (w' : World) : Prop :=
  ∃ v, e = .returned (.tuple #[.agg (cliCells p nx v f), .int .i64 0]) ∧ w'.ownsRow w.heap.size 58 6 v n xs ∧ Below w.heap.size w w'

def updW (f : Nat → Int) (q : Nat) (x : Int) : Nat → Int := fun i => if i = q then x else f i

set_option maxHeartbeats 2000000 in
theorem clearn_ok (p nx : Int) (A : Option Addr) (n c B : Nat) (ws : List (Int × Int)) (f : Nat → Int) (q : Nat) (node : Int) (w : World) (h : ClOk p nx ws f) (hl : ws.length = n) (hn : n ≤ 100) (hnc : n ≤ c) (hr : Reads w B 6 A n (evRow p ws)) (hB : B ≤ w.heap.size)
    (hq : q < 4) (h0 : -1 ≤ node) (h1 : node ≤ 4) :
    Calls Try.prog 16 #[.agg (cliCells p nx (.slice A n c) f), .int .i64 q, .int .i64 node] w (LearnPost w p nx n (evRow p ws) (updW f q node)) := by
  have CC := Lib.hid (fun W hr hb => ccheck_ok p nx A n c B ws f W h hl hn hr hb)
  have CO := Lib.hid (fun W hr hb => own_ok p nx A n c B (evRow p ws) f W hr (evRow_one p ws) hnc (by omega) hb)
  have HP := Lib.hid (show ∀ v w', w'.ownsRow w.heap.size 58 6 v n (evRow p ws) → Below w.heap.size w w' → LearnPost w p nx n (evRow p ws) (updW f q node) (.returned (.tuple #[.agg (cliCells p nx v (updW f q node)), .int .i64 0])) w' from fun v w' h1 h2 => ⟨v, rfl, h1, h2⟩)
  generalize LearnPost w p nx n (evRow p ws) (updW f q node) = POST at *
  obtain ⟨E, F, bel⟩ := blk2 w 46 46 (cliCells p nx (.slice A n c) f) (cliCells 0 0 (.slice none 0 0) (fun _ => 0))
  have hr2 := (hr.alloc hB (.cells (cliCells p nx (.slice A n c) f) 46)).alloc (by simp; omega) (.cells (cliCells 0 0 (.slice none 0 0) (fun _ => 0)) 46)
  clear h hr
  go_enter Try.func16, Try.ntmps16
  unfold cliCells at *
  go_wp2_with fail
  refine (CC.out _ hr2 (by simp; omega)).mono ?_
  rintro e w1 ⟨rfl, b1⟩
  have E1 := E.below b1 E.lt
  have F1 := F.below b1 F.lt
  have bel1 := bel.trans (b1.mono (by simp; omega))
  have hr3 := hr2.below (b1.mono (by simp; omega))
  have hq1 := bel1.size
  clear CC E F bel b1 hr2
  have x0 := E1.cell 0
  have x1 := E1.cell 1
  have x2 := E1.cell 2
  have x3 := E1.cell 3
  have x4 := E1.cell 4
  have x5 := E1.cell 5
  have x6 := E1.cell 6
  have hqI : (q : Int) < 4 := by omega
  have hqI2 : ¬ (4 : Int) ≤ (q : Int) := by omega
  have hnI : ¬ node < -1 := by omega
  have hnI2 : ¬ 5 ≤ node := by omega
  go_wp2_with fail
  refine (CO.out _ hr3 (by omega)).mono ?_
  rintro e w2 ⟨v, rfl, o2, b2⟩
  obtain ⟨A2, c2, rfl, hc2, _⟩ := own_shape o2
  have E2 := E1.below b2 E1.lt
  have F2 := F1.below b2 F1.lt
  have bel2 := bel1.trans (b2.mono hq1)
  have o3 := own_base (base' := w.heap.size) o2 hq1
  clear CO E1 F1 bel1 b2 hr3 x0 x1 x2 x3 x4 x5 x6 o2
  have n1 := own_blk_ne o3 E2 (by decide)
  have n2 := own_blk_ne o3 F2 (by decide)
  have x0 := E2.cell 0
  have x1 := E2.cell 1
  have x2 := E2.cell 2
  have x3 := E2.cell 3
  have x4 := E2.cell 4
  have x5 := E2.cell 5
  have x6 := E2.cell 6
  have y0 := F2.cell 0
  have y1 := F2.cell 1
  have y2 := F2.cell 2
  have y3 := F2.cell 3
  have y4 := F2.cell 4
  have y5 := F2.cell 5
  have y6 := F2.cell 6
  have xf := E2.frozen
  have yf := F2.frozen
  have E3 := putFrom_blk E2 [.int .i64 p, .int .i64 nx, .slice A2 n c2, .int .i64 (f 0), .int .i64 (f 1), .int .i64 (f 2), .int .i64 (f 3)] rfl
  have F3 := putFrom_far (g := w.heap.size) (show w.heap.size + 1 ≠ w.heap.size by omega) [.int .i64 p, .int .i64 nx, .slice A2 n c2, .int .i64 (f 0), .int .i64 (f 1), .int .i64 (f 2), .int .i64 (f 3)] 0 _ F2
  have o4 := putFrom_own (g := w.heap.size) n1 [.int .i64 p, .int .i64 nx, .slice A2 n c2, .int .i64 (f 0), .int .i64 (f 1), .int .i64 (f 2), .int .i64 (f 3)] 0 _ o3
  have bel3 := putFrom_below (g := w.heap.size) (Nat.le_refl w.heap.size) [.int .i64 p, .int .i64 nx, .slice A2 n c2, .int .i64 (f 0), .int .i64 (f 1), .int .i64 (f 2), .int .i64 (f 3)] 0 _ bel2
  clear E2 F2 o3 bel2 n1 n2
  unfold cliCells
  go_upto_region 7 with fail
  rw [put7_eq]
  generalize putFrom w2 w.heap.size 0 [.int .i64 p, .int .i64 nx, .slice A2 n c2, .int .i64 (f 0), .int .i64 (f 1), .int .i64 (f 2), .int .i64 (f 3)] = w3 at *
  clear x0 x1 x2 x3 x4 x5 x6 y0 y1 y2 y3 y4 y5 y6 xf yf
  have n1 := own_blk_ne o4 E3 (by decide)
  have xf := E3.frozen
  rcases (show q = 0 ∨ q = 1 ∨ q = 2 ∨ q = 3 by omega) with rfl | rfl | rfl | rfl
  · have x0 := E3.cell 3
    go_upto_region 8 with fail
    have E4 : Blk (w3.setCell ⟨w.heap.size, 3, none⟩ (.int .i64 node)) w.heap.size 46 #[.int .i64 (p), .int .i64 (nx), .slice A2 n c2, .int .i64 (node), .int .i64 (f 1), .int .i64 (f 2), .int .i64 (f 3)] := E3.set_ 3 (.int .i64 node)
    have F4 := F3.far (p := ⟨w.heap.size, 3, none⟩) (by simp) (.int .i64 node)
    have o5 := ownsRow_setCell_other (a := ⟨w.heap.size, 3, none⟩) o4 n1 (.int .i64 node)
    have hbel := bel3.setCell (p := ⟨w.heap.size, 3, none⟩) (Nat.le_refl _) (.int .i64 node)
    have n2 := own_blk_ne o5 F4 (by decide)
    generalize w3.setCell ⟨w.heap.size, 3, none⟩ (.int .i64 node) = w4 at *
    clear x0 xf E3 F3 o4 bel3 n1
    have x0 := E4.cell 0
    have x1 := E4.cell 1
    have x2 := E4.cell 2
    have x3 := E4.cell 3
    have x4 := E4.cell 4
    have x5 := E4.cell 5
    have x6 := E4.cell 6
    have y0 := F4.cell 0
    have y1 := F4.cell 1
    have y2 := F4.cell 2
    have y3 := F4.cell 3
    have y4 := F4.cell 4
    have y5 := F4.cell 5
    have y6 := F4.cell 6
    have yf := F4.frozen
    have hfin := HP.out _ _ (putFrom_own (g := w.heap.size + 1) n2 [.int .i64 (p), .int .i64 (nx), .slice A2 n c2, .int .i64 (node), .int .i64 (f 1), .int .i64 (f 2), .int .i64 (f 3)] 0 _ o5) (putFrom_below (g := w.heap.size + 1) (by simp) [.int .i64 (p), .int .i64 (nx), .slice A2 n c2, .int .i64 (node), .int .i64 (f 1), .int .i64 (f 2), .int .i64 (f 3)] 0 _ hbel)
    go_wp2_with fail
    exact bodyPost_ret (v := .tuple #[.agg #[.int .i64 (p), .int .i64 (nx), .slice A2 n c2, .int .i64 (node), .int .i64 (f 1), .int .i64 (f 2), .int .i64 (f 3)], .int .i64 0]) (by simp [results, Try.results16, go_sem, *]) rfl (by rw [put7_eq]; exact hfin)
  · have x0 := E3.cell 4
    go_upto_region 8 with fail
    have E4 : Blk (w3.setCell ⟨w.heap.size, 4, none⟩ (.int .i64 node)) w.heap.size 46 #[.int .i64 (p), .int .i64 (nx), .slice A2 n c2, .int .i64 (f 0), .int .i64 (node), .int .i64 (f 2), .int .i64 (f 3)] := E3.set_ 4 (.int .i64 node)
    have F4 := F3.far (p := ⟨w.heap.size, 4, none⟩) (by simp) (.int .i64 node)
    have o5 := ownsRow_setCell_other (a := ⟨w.heap.size, 4, none⟩) o4 n1 (.int .i64 node)
    have hbel := bel3.setCell (p := ⟨w.heap.size, 4, none⟩) (Nat.le_refl _) (.int .i64 node)
    have n2 := own_blk_ne o5 F4 (by decide)
    generalize w3.setCell ⟨w.heap.size, 4, none⟩ (.int .i64 node) = w4 at *
    clear x0 xf E3 F3 o4 bel3 n1
    have x0 := E4.cell 0
    have x1 := E4.cell 1
    have x2 := E4.cell 2
    have x3 := E4.cell 3
    have x4 := E4.cell 4
    have x5 := E4.cell 5
    have x6 := E4.cell 6
    have y0 := F4.cell 0
    have y1 := F4.cell 1
    have y2 := F4.cell 2
    have y3 := F4.cell 3
    have y4 := F4.cell 4
    have y5 := F4.cell 5
    have y6 := F4.cell 6
    have yf := F4.frozen
    have hfin := HP.out _ _ (putFrom_own (g := w.heap.size + 1) n2 [.int .i64 (p), .int .i64 (nx), .slice A2 n c2, .int .i64 (f 0), .int .i64 (node), .int .i64 (f 2), .int .i64 (f 3)] 0 _ o5) (putFrom_below (g := w.heap.size + 1) (by simp) [.int .i64 (p), .int .i64 (nx), .slice A2 n c2, .int .i64 (f 0), .int .i64 (node), .int .i64 (f 2), .int .i64 (f 3)] 0 _ hbel)
    go_wp2_with fail
    exact bodyPost_ret (v := .tuple #[.agg #[.int .i64 (p), .int .i64 (nx), .slice A2 n c2, .int .i64 (f 0), .int .i64 (node), .int .i64 (f 2), .int .i64 (f 3)], .int .i64 0]) (by simp [results, Try.results16, go_sem, *]) rfl (by rw [put7_eq]; exact hfin)
  · have x0 := E3.cell 5
    go_upto_region 8 with fail
    have E4 : Blk (w3.setCell ⟨w.heap.size, 5, none⟩ (.int .i64 node)) w.heap.size 46 #[.int .i64 (p), .int .i64 (nx), .slice A2 n c2, .int .i64 (f 0), .int .i64 (f 1), .int .i64 (node), .int .i64 (f 3)] := E3.set_ 5 (.int .i64 node)
    have F4 := F3.far (p := ⟨w.heap.size, 5, none⟩) (by simp) (.int .i64 node)
    have o5 := ownsRow_setCell_other (a := ⟨w.heap.size, 5, none⟩) o4 n1 (.int .i64 node)
    have hbel := bel3.setCell (p := ⟨w.heap.size, 5, none⟩) (Nat.le_refl _) (.int .i64 node)
    have n2 := own_blk_ne o5 F4 (by decide)
    generalize w3.setCell ⟨w.heap.size, 5, none⟩ (.int .i64 node) = w4 at *
    clear x0 xf E3 F3 o4 bel3 n1
    have x0 := E4.cell 0
    have x1 := E4.cell 1
    have x2 := E4.cell 2
    have x3 := E4.cell 3
    have x4 := E4.cell 4
    have x5 := E4.cell 5
    have x6 := E4.cell 6
    have y0 := F4.cell 0
    have y1 := F4.cell 1
    have y2 := F4.cell 2
    have y3 := F4.cell 3
    have y4 := F4.cell 4
    have y5 := F4.cell 5
    have y6 := F4.cell 6
    have yf := F4.frozen
    have hfin := HP.out _ _ (putFrom_own (g := w.heap.size + 1) n2 [.int .i64 (p), .int .i64 (nx), .slice A2 n c2, .int .i64 (f 0), .int .i64 (f 1), .int .i64 (node), .int .i64 (f 3)] 0 _ o5) (putFrom_below (g := w.heap.size + 1) (by simp) [.int .i64 (p), .int .i64 (nx), .slice A2 n c2, .int .i64 (f 0), .int .i64 (f 1), .int .i64 (node), .int .i64 (f 3)] 0 _ hbel)
    go_wp2_with fail
    exact bodyPost_ret (v := .tuple #[.agg #[.int .i64 (p), .int .i64 (nx), .slice A2 n c2, .int .i64 (f 0), .int .i64 (f 1), .int .i64 (node), .int .i64 (f 3)], .int .i64 0]) (by simp [results, Try.results16, go_sem, *]) rfl (by rw [put7_eq]; exact hfin)
  · have x0 := E3.cell 6
    go_upto_region 8 with fail
    have E4 : Blk (w3.setCell ⟨w.heap.size, 6, none⟩ (.int .i64 node)) w.heap.size 46 #[.int .i64 (p), .int .i64 (nx), .slice A2 n c2, .int .i64 (f 0), .int .i64 (f 1), .int .i64 (f 2), .int .i64 (node)] := E3.set_ 6 (.int .i64 node)
    have F4 := F3.far (p := ⟨w.heap.size, 6, none⟩) (by simp) (.int .i64 node)
    have o5 := ownsRow_setCell_other (a := ⟨w.heap.size, 6, none⟩) o4 n1 (.int .i64 node)
    have hbel := bel3.setCell (p := ⟨w.heap.size, 6, none⟩) (Nat.le_refl _) (.int .i64 node)
    have n2 := own_blk_ne o5 F4 (by decide)
    generalize w3.setCell ⟨w.heap.size, 6, none⟩ (.int .i64 node) = w4 at *
    clear x0 xf E3 F3 o4 bel3 n1
    have x0 := E4.cell 0
    have x1 := E4.cell 1
    have x2 := E4.cell 2
    have x3 := E4.cell 3
    have x4 := E4.cell 4
    have x5 := E4.cell 5
    have x6 := E4.cell 6
    have y0 := F4.cell 0
    have y1 := F4.cell 1
    have y2 := F4.cell 2
    have y3 := F4.cell 3
    have y4 := F4.cell 4
    have y5 := F4.cell 5
    have y6 := F4.cell 6
    have yf := F4.frozen
    have hfin := HP.out _ _ (putFrom_own (g := w.heap.size + 1) n2 [.int .i64 (p), .int .i64 (nx), .slice A2 n c2, .int .i64 (f 0), .int .i64 (f 1), .int .i64 (f 2), .int .i64 (node)] 0 _ o5) (putFrom_below (g := w.heap.size + 1) (by simp) [.int .i64 (p), .int .i64 (nx), .slice A2 n c2, .int .i64 (f 0), .int .i64 (f 1), .int .i64 (f 2), .int .i64 (node)] 0 _ hbel)
    go_wp2_with fail
    exact bodyPost_ret (v := .tuple #[.agg #[.int .i64 (p), .int .i64 (nx), .slice A2 n c2, .int .i64 (f 0), .int .i64 (f 1), .int .i64 (f 2), .int .i64 (node)], .int .i64 0]) (by simp [results, Try.results16, go_sem, *]) rfl (by rw [put7_eq]; exact hfin)

set_option maxHeartbeats 2000000 in
theorem cask_ok (p nx : Int) (A : Option Addr) (n c B : Nat) (ws : List (Int × Int)) (f : Nat → Int) (q : Nat) (w : World) (h : ClOk p nx ws f) (hl : ws.length = n) (hn : n ≤ 100) (hr : Reads w B 6 A n (evRow p ws)) (hB : B ≤ w.heap.size) (hq : q < 4) :
    Calls Try.prog 17 #[.agg (cliCells p nx (.slice A n c) f), .int .i64 q] w (Puts2 w (.int .i64 (if f q < 0 then 0 else f q)) (.int .i64 (if f q < 0 then 7 else 0))) := by
  have CC := Lib.hid (fun W hr hb => ccheck_ok p nx A n c B ws f W h hl hn hr hb)
  clear h
  have HP := Lib.hid (show ∀ a b w', a = (if f q < 0 then 0 else f q) → b = (if f q < 0 then 7 else 0) → Below w.heap.size w w' → Puts2 w (.int .i64 (if f q < 0 then 0 else f q)) (.int .i64 (if f q < 0 then 7 else 0)) (.returned (.tuple #[.int .i64 a, .int .i64 b])) w' from fun a b w' h1 h2 h3 => ⟨by rw [h1, h2], h3⟩)
  generalize Puts2 w (.int .i64 (if f q < 0 then 0 else f q)) (.int .i64 (if f q < 0 then 7 else 0)) = POST at *
  have E := Blk.new w 46 (cliCells p nx (.slice A n c) f)
  have hr2 := hr.alloc hB (.cells (cliCells p nx (.slice A n c) f) 46)
  have bel := (Below.refl w.heap.size w).alloc (Nat.le_refl _) (.cells (cliCells p nx (.slice A n c) f) 46)
  clear hr
  go_enter Try.func17, Try.ntmps17
  unfold cliCells at *
  go_wp2_with fail
  refine (CC.out _ hr2 (by simp; omega)).mono ?_
  rintro e w1 ⟨rfl, b1⟩
  have E1 := E.below b1 (by simp)
  have bel1 := bel.trans (b1.mono (by simp))
  clear CC E bel b1 hr2
  have x0 := E1.cell 0
  have x1 := E1.cell 1
  have x2 := E1.cell 2
  have x3 := E1.cell 3
  have x4 := E1.cell 4
  have x5 := E1.cell 5
  have x6 := E1.cell 6
  have hqI : (q : Int) < 4 := by omega
  have hqI2 : ¬ (4 : Int) ≤ (q : Int) := by omega
  rcases (show q = 0 ∨ q = 1 ∨ q = 2 ∨ q = 3 by omega) with rfl | rfl | rfl | rfl
  · by_cases hneg : f 0 < 0
    · go_wp2_with fail
      exact HP.out _ _ _ (by rw [if_pos hneg]) (by rw [if_pos hneg]) bel1
    · go_wp2_with fail
      exact HP.out _ _ _ (by rw [if_neg (by omega)]) (by rw [if_neg (by omega)]) bel1
  · by_cases hneg : f 1 < 0
    · go_wp2_with fail
      exact HP.out _ _ _ (by rw [if_pos hneg]) (by rw [if_pos hneg]) bel1
    · go_wp2_with fail
      exact HP.out _ _ _ (by rw [if_neg (by omega)]) (by rw [if_neg (by omega)]) bel1
  · by_cases hneg : f 2 < 0
    · go_wp2_with fail
      exact HP.out _ _ _ (by rw [if_pos hneg]) (by rw [if_pos hneg]) bel1
    · go_wp2_with fail
      exact HP.out _ _ _ (by rw [if_neg (by omega)]) (by rw [if_neg (by omega)]) bel1
  · by_cases hneg : f 3 < 0
    · go_wp2_with fail
      exact HP.out _ _ _ (by rw [if_pos hneg]) (by rw [if_pos hneg]) bel1
    · go_wp2_with fail
      exact HP.out _ _ _ (by rw [if_neg (by omega)]) (by rw [if_neg (by omega)]) bel1

end Go.Proofs.Ytcbpgmpbjcknbaa
