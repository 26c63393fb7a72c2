/- Clients: Send. -/
import Derived.Test.YtcbpgmpbjcknbaaCliNew
import Derived.BigRegion
namespace Go.Proofs.Ytcbpgmpbjcknbaa
open Go.RowKit

theorem rowCells_append (a b : List (List Int)) : rowCells (a ++ b) = rowCells a ++ rowCells b := by simp [rowCells]
theorem evRow_snoc (p : Int) (ws : List (Int × Int)) (x : Int × Int) : evRow p (ws ++ [x]) = evRow p ws ++ [.int .i64 1, .int .i64 p, .int .i64 x.1, .int .i64 x.2, .int .i64 0, .int .i64 0] := by
  unfold evRow
  rw [List.map_append, rowCells_append]
  rfl
def evCells (p id body : Int) : Array Value := #[.int .i64 1, .int .i64 p, .int .i64 id, .int .i64 body, .int .i64 0, .int .i64 0]
theorem reads_one (w : World) (t : TypeId) (cs : Array Value) (k : Nat) (hk : cs.size = k) : Reads (w.alloc (.cells cs t)) (w.heap.size + 1) k (some ⟨w.heap.size, 0, none⟩) 1 cs.toList := by
  refine ⟨by simp [hk], fun _ => ⟨_, rfl, by simp, fun j u hj => ?_⟩⟩
  have e : (⟨w.heap.size, 0, none⟩ : Addr).add j = ⟨w.heap.size, j, none⟩ := by
    unfold Addr.add
    by_cases h : j = 0 <;> simp [h]
  rw [e, (Blk.new w t cs).cell j]
  simpa using hj

theorem put6_eq (w : World) (g : Nat) (a b c d e f : Value) :
    (((((w.setCell ⟨g, 0, none⟩ a).setCell ⟨g, 1, none⟩ b).setCell ⟨g, 2, none⟩ c).setCell ⟨g, 3, none⟩ d).setCell ⟨g, 4, none⟩ e).setCell ⟨g, 5, none⟩ f = putFrom w g 0 [a, b, c, d, e, f] := rfl

def SendPost (w : World) (p nx body : Int) (n : Nat) (ws : List (Int × Int)) (f : Nat → Int) (e : Ending) (w' : World) : Prop :=
  ∃ v, e = .returned (.tuple #[.agg (cliCells p (nx + 1) v f), .agg (evCells p nx body), .int .i64 0]) ∧ w'.ownsRow w.heap.size 58 6 v (n + 1) (evRow p (ws ++ [(nx, body)])) ∧ Below w.heap.size w w'

theorem blk3' (w : World) (a b c : TypeId) (A B C : Array Value) : let W := ((w.alloc (.cells A a)).alloc (.cells B b)).alloc (.cells C c)
    Blk W w.heap.size a A ∧ Blk W (w.heap.size + 1) b B ∧ Blk W (w.heap.size + 1 + 1) c C ∧ Below w.heap.size w W := by
  obtain ⟨h1, h2, h3⟩ := blk2 w a b A B
  refine ⟨h1.alloc _, h2.alloc _, ?_, h3.alloc (by simp; omega) _⟩
  have := Blk.new ((w.alloc (.cells A a)).alloc (.cells B b)) c C
  rwa [World.size_alloc, World.size_alloc] at this

set_option maxHeartbeats 2000000 in
theorem csend_ok (p nx body : Int) (A : Option Addr) (n c B : Nat) (ws : List (Int × Int)) (f : Nat → Int) (w : World) (h : ClOk p nx ws f) (hl : ws.length = n) (hn : n ≤ 100) (hnc : n ≤ c) (hr : Reads w B 6 A n (evRow p ws)) (hB : B ≤ w.heap.size)
    (hnx : nx < 1073741824) (hfirst : n = 0 ∨ nx - (ws.getD 0 (0, 0)).1 < 8) (hb0 : 0 ≤ body) (hb1 : body ≤ 1000000) :
    Calls Try.prog 18 #[.agg (cliCells p nx (.slice A n c) f), .int .i64 body] w (SendPost w p nx body n ws f) := by
  obtain ⟨i0, hi0, hz0, hz1, hz2⟩ := info_parts ev_info
  have CC := Lib.hid (fun W hr hb => ccheck_ok p nx A n c B ws f W h hl hn hr hb)
  have CO := Lib.hid (fun W hr hb => own_ok p nx A n c B (evRow p ws) f W hr (evRow_one p ws) hnc (by omega) hb)
  have hn0 := h.n0
  have hid := fun k hk => h.ids k hk
  have HP := Lib.hid (show ∀ v w', w'.ownsRow w.heap.size 58 6 v (n + 1) (evRow p ws ++ (evCells p nx body).toList) → Below w.heap.size w w' → SendPost w p nx body n ws f (.returned (.tuple #[.agg (cliCells p (nx + 1) v f), .agg (evCells p nx body), .int .i64 0])) w' from fun v w' h1 h2 => ⟨v, rfl, by rw [evRow_snoc]; exact h1, h2⟩)
  generalize SendPost w p nx body n ws f = POST at *
  obtain ⟨E, F, G, bel⟩ := blk3' w 46 46 58 (cliCells p nx (.slice A n c) f) (cliCells 0 0 (.slice none 0 0) (fun _ => 0)) #[.int .i64 0, .int .i64 0, .int .i64 0, .int .i64 0, .int .i64 0, .int .i64 0]
  have hr2 := ((hr.alloc hB (.cells (cliCells p nx (.slice A n c) f) 46)).alloc (by simp; omega) (.cells (cliCells 0 0 (.slice none 0 0) (fun _ => 0)) 46)).alloc (by simp; omega) (.cells #[.int .i64 0, .int .i64 0, .int .i64 0, .int .i64 0, .int .i64 0, .int .i64 0] 58)
  clear h hr
  go_enter Try.func18, Try.ntmps18
  unfold cliCells at *
  go_wp2_with fail
  refine (CC.out _ hr2 (by simp; omega)).mono ?_
  rintro e w1 ⟨rfl, b1⟩
  have E1 := E.below b1 E.lt
  have F1 := F.below b1 F.lt
  have G1 := G.below b1 G.lt
  have bel1 := bel.trans (b1.mono (by simp; omega))
  have hr3 := hr2.below (b1.mono (by simp; omega))
  have hq1 := bel1.size
  clear CC E F G bel b1 hr2
  have x0 := E1.cell 0
  have x1 := E1.cell 1
  have x2 := E1.cell 2
  have x3 := E1.cell 3
  have x4 := E1.cell 4
  have x5 := E1.cell 5
  have x6 := E1.cell 6
  have z3 := G1.lt
  have hc1 : ¬ body < 0 := by omega
  have hc2 : ¬ 1000000 < body := by omega
  have hc3 : ¬ nx = 1073741824 := by omega
  have hcase : (¬ 0 < n ∧ ¬ (0 : Int) < (n : Int)) ∨ (∃ b off id0, A = some ⟨b, off, none⟩ ∧ b < w1.heap.size ∧ w1.cell? ⟨b, off + 2, none⟩ = some (.int .i64 id0) ∧ 0 < n ∧ (0 : Int) < (n : Int) ∧ IntKind.i64.wrap (nx - id0) = nx - id0 ∧ ¬ 8 ≤ nx - id0) := by
    by_cases hn0' : n = 0
    · left; omega
    · right
      obtain ⟨b, off, hA, hb, y0, y1, y2, y3, y4, y5⟩ := evAt hl hr3 (show 0 < n by omega)
      simp only [Nat.zero_mul, Nat.add_zero] at y2
      obtain ⟨d0, d1, d2, _⟩ := hid 0 (by omega)
      exact ⟨b, off, _, hA, by omega, y2, by omega, by omega, IntWalk.i64_in _ (by omega), by omega⟩
  have hc4 : (nx == 1073741824) = false := by rw [beq_eq_false_iff_ne]; exact hc3
  have i2 : IntKind.i64.wrap (nx + 1) = nx + 1 := IntWalk.i64_in _ (by omega)
  clear hid hfirst hl hc3
  rcases hcase with ⟨hN, hNI⟩ | ⟨b, off, id0, rfl, hbw, y2, hN, hNI, i1, hd2⟩
  all_goals
    go_wp2_with fail
    go_quiet (fail)
    have E2 : Blk (w1.drewN nq) w.heap.size 46 _ := E1.drewN nq
    have F2 : Blk (w1.drewN nq) (w.heap.size + 1) 46 _ := F1.drewN nq
    have G2 : Blk (w1.drewN nq) (w.heap.size + 1 + 1) 58 _ := G1.drewN nq
    have bel2 := below_drewN bel1 nq
    have hr4 := hr3.drewN nq
    have hq2 : w.heap.size ≤ (w1.drewN nq).heap.size := hq1
    generalize w1.drewN nq = w2 at *
    clear x0 x1 x2 x3 x4 x5 x6 z3 E1 F1 G1 bel1 hr3 hq1
    have x0 := E2.cell 0
    have x1 := E2.cell 1
    have x2 := E2.cell 2
    have x3 := E2.cell 3
    have x4 := E2.cell 4
    have x5 := E2.cell 5
    have x6 := E2.cell 6
    have z1 := E2.lt
    have z2 := F2.lt
    have z3 := G2.lt
    go_wp2_with fail
    refine (CO.out _ (hr4.alloc (by omega) (.cells (evCells p nx body) 58)) (by simp; omega)).mono ?_
    rintro e w3 ⟨v, rfl, o3, b3⟩
    obtain ⟨A2, c2, rfl, hc2, _⟩ := own_shape o3
    have E3 := (E2.alloc (.cells (evCells p nx body) 58)).below b3 (by simp; omega)
    have F3 := (F2.alloc (.cells (evCells p nx body) 58)).below b3 (by simp; omega)
    have G3 := (G2.alloc (.cells (evCells p nx body) 58)).below b3 (by simp; omega)
    have X3 := (Blk.new w2 58 (evCells p nx body)).below b3 (by simp)
    have bel3 := (bel2.alloc hq2 (.cells (evCells p nx body) 58)).trans (b3.mono (by simp; omega))
    have o4 := own_base (base' := w.heap.size) o3 (by simp; omega)
    have ng : ∀ k, (Value.slice A2 n c2).ownBlock = some k → w2.heap.size + 1 ≤ k := fun k hk => Nat.le_trans (by simp) (World.ownsRow.lt o3 k hk).1
    have z4 := X3.lt
    obtain ⟨gx, hgx⟩ : ∃ gx, gx = w2.heap.size := ⟨_, rfl⟩
    rw [← hgx] at X3 z1 z2 z3 z4 ng ⊢
    clear x0 x1 x2 x3 x4 x5 x6 E2 F2 G2 bel2 hr4 o3 b3 CO hgx
    have n1 := own_blk_ne o4 E3 (by decide)
    have x0 := E3.cell 0
    have x1 := E3.cell 1
    have x2 := E3.cell 2
    have x3 := E3.cell 3
    have x4 := E3.cell 4
    have x5 := E3.cell 5
    have x6 := E3.cell 6
    have xf := E3.frozen
    have zE := E3.lt
    have E4 := putFrom_blk E3 [.int .i64 p, .int .i64 nx, .slice A2 n c2, .int .i64 (f 0), .int .i64 (f 1), .int .i64 (f 2), .int .i64 (f 3)] rfl
    have F4 := putFrom_far (g := w.heap.size) (show w.heap.size + 1 ≠ w.heap.size by omega) [.int .i64 p, .int .i64 nx, .slice A2 n c2, .int .i64 (f 0), .int .i64 (f 1), .int .i64 (f 2), .int .i64 (f 3)] 0 _ F3
    have G4 := putFrom_far (g := w.heap.size) (show w.heap.size + 1 + 1 ≠ w.heap.size by omega) [.int .i64 p, .int .i64 nx, .slice A2 n c2, .int .i64 (f 0), .int .i64 (f 1), .int .i64 (f 2), .int .i64 (f 3)] 0 _ G3
    have X4 := putFrom_far (g := w.heap.size) (show gx ≠ w.heap.size by omega) [.int .i64 p, .int .i64 nx, .slice A2 n c2, .int .i64 (f 0), .int .i64 (f 1), .int .i64 (f 2), .int .i64 (f 3)] 0 _ X3
    have o5 := putFrom_own (g := w.heap.size) n1 [.int .i64 p, .int .i64 nx, .slice A2 n c2, .int .i64 (f 0), .int .i64 (f 1), .int .i64 (f 2), .int .i64 (f 3)] 0 _ o4
    have bel4 := putFrom_below (g := w.heap.size) (Nat.le_refl w.heap.size) [.int .i64 p, .int .i64 nx, .slice A2 n c2, .int .i64 (f 0), .int .i64 (f 1), .int .i64 (f 2), .int .i64 (f 3)] 0 _ bel3
    unfold cliCells
    go_upto_region 10 with fail
    rw [put7_eq]
    generalize putFrom w3 w.heap.size 0 [.int .i64 p, .int .i64 nx, .slice A2 n c2, .int .i64 (f 0), .int .i64 (f 1), .int .i64 (f 2), .int .i64 (f 3)] = w4 at *
    clear x0 x1 x2 x3 x4 x5 x6 xf zE E3 F3 G3 X3 o4 bel3 n1
    have n1 := own_blk_ne o5 E4 (by decide)
    have n2 := own_blk_ne o5 F4 (by decide)
    have x2 : w4.cell? ⟨w.heap.size, 2, none⟩ = some (.slice A2 n c2) := E4.cell 2
    have X5 := Blk.cell (t := 58) (cs := evCells p nx body) X4
    have v0 := X5 0
    have v1 := X5 1
    have v2 := X5 2
    have v3 := X5 3
    have v4 := X5 4
    have v5 := X5 5
    have z5 := X4.lt
    have zE := E4.lt
    have hs4 := bel4.size
    have o6 := o5.alloc (.cells (evCells p nx body) 58)
    have rR := reads_one w4 58 (evCells p nx body) 6 rfl
    have hone : ∀ u ∈ (evCells p nx body).toList, u.oneCell' = true := by
      intro u hu
      simp [evCells] at hu
      rcases hu with h | h | h | h | h <;> subst h <;> rfl
    clear X5
    unfold evCells at v0 v1 v2 v3 v4 v5
    go_upto_region 11 with (at_builtin; refine wpList_append_any _ rfl (.tmp 58) (.tmp 60) _ rfl w.heap.size 58 i0 _ 6 48 Try.underlying43 hi0 hz0 hz1 hz2 rfl (by omega) (.slice A2 n c2) n (evRow p ws) rfl o6 _ (some ⟨w4.heap.size, 0, none⟩) 1 1 (evCells p nx body).toList rfl rR hone (by simp only [maxLen]; omega) (by omega) (by simp; omega) ?_; intro v6 w6 o7 g6 at6; have E6 := (E4.alloc (.cells (evCells p nx body) 58)).grown g6 (fun h => n1 h.symm); have F6 := (F4.alloc (.cells (evCells p nx body) 58)).grown g6 (fun h => n2 h.symm); have G6 := (G4.alloc (.cells (evCells p nx body) 58)).grown g6 (fun h => (by have := ng _ h.symm; omega)); have X6 := (X4.alloc (.cells (evCells p nx body) 58)).grown g6 (fun h => (by have := ng _ h.symm; omega)); have bel6 := (bel4.alloc hs4 (.cells (evCells p nx body) 58)).grown g6 (by simp; omega) (fun k hk => (by have := ng _ hk; omega)); have ng6 : ∀ k, v6.ownBlock = some k → gx < k := (fun k hk => at6.elim (fun h => ng k (h ▸ hk)) (fun h => (by rw [h] at hk; injection hk with hk; simp at hk; omega))); obtain ⟨A6, c6, rfl, _, _⟩ := own_shape o7; clear x2; have x2 : w6.cell? ⟨w.heap.size, 2, none⟩ = _ := E6.cell 2; have xf := E6.frozen)
    clear x2
    have x1 : w6.cell? ⟨w.heap.size, 1, none⟩ = some (.int .i64 nx) := E6.cell 1
    have hE6 := own_blk_ne o7 E6 (by decide)
    have E7 : Blk ((w6.setCell ⟨w.heap.size, 2, none⟩ (.slice A6 (n + 1) c6)).setCell ⟨w.heap.size, 1, none⟩ (.int .i64 (nx + 1))) w.heap.size 46 #[.int .i64 p, .int .i64 (nx + 1), .slice A6 (n + 1) c6, .int .i64 (f 0), .int .i64 (f 1), .int .i64 (f 2), .int .i64 (f 3)] := (E6.set_ 2 (.slice A6 (n + 1) c6)).set_ 1 (.int .i64 (nx + 1))
    have F7 := (F6.far (p := ⟨w.heap.size, 2, none⟩) (by simp) (.slice A6 (n + 1) c6)).far (p := ⟨w.heap.size, 1, none⟩) (by simp) (.int .i64 (nx + 1))
    have G7 := (G6.far (p := ⟨w.heap.size, 2, none⟩) (by simp; omega) (.slice A6 (n + 1) c6)).far (p := ⟨w.heap.size, 1, none⟩) (by simp; omega) (.int .i64 (nx + 1))
    have X7 := (X6.far (p := ⟨w.heap.size, 2, none⟩) (by simp; omega) (.slice A6 (n + 1) c6)).far (p := ⟨w.heap.size, 1, none⟩) (by simp; omega) (.int .i64 (nx + 1))
    have o8 := ownsRow_setCell_other (a := ⟨w.heap.size, 1, none⟩) (ownsRow_setCell_other (a := ⟨w.heap.size, 2, none⟩) o7 hE6 (.slice A6 (n + 1) c6)) hE6 (.int .i64 (nx + 1))
    have bel7 := (bel6.setCell (p := ⟨w.heap.size, 2, none⟩) (Nat.le_refl _) (.slice A6 (n + 1) c6)).setCell (p := ⟨w.heap.size, 1, none⟩) (Nat.le_refl _) (.int .i64 (nx + 1))
    go_upto_region 12 with fail
    generalize (w6.setCell ⟨w.heap.size, 2, none⟩ (.slice A6 (n + 1) c6)).setCell ⟨w.heap.size, 1, none⟩ (.int .i64 (nx + 1)) = w7 at *
    clear x1 xf v0 v1 v2 v3 v4 v5 z5 zE E6 F6 G6 X6 o7 bel6 hE6
    have x0 := E7.cell 0
    have x1 := E7.cell 1
    have x2 := E7.cell 2
    have x3 := E7.cell 3
    have x4 := E7.cell 4
    have x5 := E7.cell 5
    have x6 := E7.cell 6
    unfold evCells at X7
    have v0 := X7.cell 0
    have v1 := X7.cell 1
    have v2 := X7.cell 2
    have v3 := X7.cell 3
    have v4 := X7.cell 4
    have v5 := X7.cell 5
    have y0 := F7.cell 0
    have y1 := F7.cell 1
    have y2 := F7.cell 2
    have y3 := F7.cell 3
    have y4 := F7.cell 4
    have y5 := F7.cell 5
    have y6 := F7.cell 6
    have u0 := G7.cell 0
    have u1 := G7.cell 1
    have u2 := G7.cell 2
    have u3 := G7.cell 3
    have u4 := G7.cell 4
    have u5 := G7.cell 5
    have yf := F7.frozen
    have uf := G7.frozen
    have nF := own_blk_ne o8 F7 (by decide)
    have nG : (Value.slice A6 (n + 1) c6).ownBlock ≠ some (w.heap.size + 1 + 1) := fun h => by have := ng6 _ h; omega
    have nn1 : ¬ gx = w.heap.size + 1 := by omega
    have nn2 : ¬ gx = w.heap.size + 1 + 1 := by omega
    have nn3 : ¬ gx = w.heap.size := by omega
    have o9 := (putFrom_own (g := w.heap.size + 1 + 1) nG [.int .i64 1, .int .i64 p, .int .i64 nx, .int .i64 body, .int .i64 0, .int .i64 0] 0 _ (putFrom_own (g := w.heap.size + 1) nF [.int .i64 p, .int .i64 (nx + 1), .slice A6 (n + 1) c6, .int .i64 (f 0), .int .i64 (f 1), .int .i64 (f 2), .int .i64 (f 3)] 0 _ o8))
    have b9 := (putFrom_below (g := w.heap.size + 1 + 1) (by omega) [.int .i64 1, .int .i64 p, .int .i64 nx, .int .i64 body, .int .i64 0, .int .i64 0] 0 _ (putFrom_below (g := w.heap.size + 1) (by omega) [.int .i64 p, .int .i64 (nx + 1), .slice A6 (n + 1) c6, .int .i64 (f 0), .int .i64 (f 1), .int .i64 (f 2), .int .i64 (f 3)] 0 _ bel7))
    have hfin := fun W hW => HP.out _ W (own_below o9 hW (Nat.le_refl _)) (b9.trans (hW.mono b9.size))
    go_wp2_with fail
    go_region
    all_goals
      go_wp2_with fail
      exact bodyPost_ret (v := .tuple #[.agg #[.int .i64 p, .int .i64 (nx + 1), .slice A6 (n + 1) c6, .int .i64 (f 0), .int .i64 (f 1), .int .i64 (f 2), .int .i64 (f 3)], .agg #[.int .i64 1, .int .i64 p, .int .i64 nx, .int .i64 body, .int .i64 0, .int .i64 0], .int .i64 0]) (by simp [results, Try.results18, go_sem, *]) rfl (by rw [put7_eq, put6_eq]; exact hfin _ (Below.refl _ _).drew)

end Go.Proofs.Ytcbpgmpbjcknbaa
