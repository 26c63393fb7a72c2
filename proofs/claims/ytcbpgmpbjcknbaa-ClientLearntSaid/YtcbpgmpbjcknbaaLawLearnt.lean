/- ClientLearnt: the walk. -/
import Derived.Test.YtcbpgmpbjcknbaaCliNew
namespace Go.Proofs.Ytcbpgmpbjcknbaa
open Go.RowKit

theorem row2 {w : World} {B n k : Nat} {A : Option Addr} {rows : List (List Int)} (hl : rows.length = n) (hs : ∀ r ∈ rows, r.length = 2 ∧ ∀ z ∈ r, (Lit.int .i64 z).wf = true) (h : Reads w B 2 A n (rowCells rows)) (hk : k < n) :
    ∃ b off, A = some ⟨b, off, none⟩ ∧ b < B ∧ (∀ j, j < 2 → w.cell? ⟨b, off + k * 2 + j, none⟩ = some (.int .i64 ((rows.getD k []).getD j 0))) ∧ ∀ j, Is64 ((rows.getD k []).getD j 0) := by
  obtain ⟨b, off, rfl, hb, hc⟩ := h.plain (by omega) (by omega)
  have hr : rows[k]? = some (rows.getD k []) := by rw [List.getElem?_eq_getElem (show k < rows.length by omega)]; simp [List.getD, List.getElem?_eq_getElem (show k < rows.length by omega)]
  have hmem : rows.getD k [] ∈ rows := List.mem_of_getElem? hr
  obtain ⟨h4, hz⟩ := hs _ hmem
  refine ⟨b, off, rfl, hb, fun j hj => ?_, fun j => ?_⟩
  · rw [Nat.add_assoc]
    refine hc _ _ ?_
    rw [rowCells_at 2 rows (fun r hr => (hs r hr).1) k j _ hr hj]
    generalize rows.getD k [] = row at *
    rw [List.getElem?_eq_getElem (show j < row.length by omega)]
    simp [List.getD, List.getElem?_eq_getElem (show j < row.length by omega)]
  · generalize rows.getD k [] = row at *
    by_cases hj : j < 2
    · refine is64_of_wf (hz _ ?_)
      rw [List.getD, List.getElem?_eq_getElem (show j < row.length by omega)]
      simp
    · rw [List.getD, List.getElem?_eq_none (by omega)]
      simp [Is64]

def four4 (f : Nat → Int) : Array Value := #[.int .i64 (f 0), .int .i64 (f 1), .int .i64 (f 2), .int .i64 (f 3)]
theorem four4_at (f : Nat → Int) (k : Nat) (hk : k < 4) : (four4 f)[k]? = some (.int .i64 (f k)) := by
  rcases (show k = 0 ∨ k = 1 ∨ k = 2 ∨ k = 3 by omega) with rfl | rfl | rfl | rfl <;> rfl
theorem four4_set (f : Nat → Int) (k : Nat) (x : Int) (hk : k < 4) : (four4 f).setIfInBounds k (.int .i64 x) = four4 (updW f k x) := by
  rcases (show k = 0 ∨ k = 1 ∨ k = 2 ∨ k = 3 by omega) with rfl | rfl | rfl | rfl <;> simp [four4, updW]
theorem clok_upd {f : Nat → Int} (h : ClOk 0 0 [] f) (k : Nat) (x : Int) (h0 : -1 ≤ x) (h1 : x ≤ 4) : ClOk 0 0 [] (updW f k x) :=
  ⟨h.p0, h.p3, h.n0, h.n1, fun j hj => absurd hj (by simp), fun j hj => by unfold updW; split; exact ⟨h0, h1⟩; exact h.wh j hj⟩
theorem clok_new : ClOk 0 0 [] (fun _ => -1) := ⟨by omega, by omega, by omega, by omega, fun j hj => absurd hj (by simp), fun j hj => by omega⟩

set_option maxRecDepth 100000 in
set_option maxHeartbeats 2000000 in
theorem clientLearnt_walk (A : Option Addr) (n c : Nat) (rows : List (List Int)) (w : World) (h : IsRows 2 16 w A n c rows) :
    Calls Try.prog 6 #[.slice A n c] w fun e w' => e = .returned (.bool true) ∧ Below w.heap.size w w' := by
  obtain ⟨hl, hnc, hcb, hr, hs⟩ := h
  go_enter Try.func6, Try.ntmps6
  go_wp2_with fail
  refine (cnew_ok 0 _ (by omega) (by omega)).mono ?_
  rintro e w1 ⟨rfl, b1⟩
  have bel1 : Below w.heap.size w w1 := b1
  clear b1
  have E0 := (Blk.new w1 46 (cliCells 0 0 (.slice none 0 0) (fun _ => -1))).alloc (.cells (four4 (fun _ => -1)) 3)
  have K0 := Blk.new (w1.alloc (.cells (cliCells 0 0 (.slice none 0 0) (fun _ => -1)) 46)) 3 (four4 (fun _ => -1))
  rw [World.size_alloc] at K0
  have bel0 := (bel1.alloc bel1.size (.cells (cliCells 0 0 (.slice none 0 0) (fun _ => -1)) 46)).alloc (by have := bel1.size; simp; omega) (.cells (four4 (fun _ => -1)) 3)
  obtain ⟨gc, hgc⟩ : ∃ gc, gc = w1.heap.size := ⟨_, rfl⟩
  have hgw : w.heap.size ≤ gc := by rw [hgc]; exact bel1.size
  have HK : ClOk 0 0 [] (fun _ => -1) := clok_new
  unfold cliCells
  go_wp2_with fail
  rw [← hgc] at E0 K0 ⊢
  go_loopw [6] (fun s6 wr => ∃ (k : Nat) (f : Nat → Int) (A0 : Option Addr) (cc : Nat), k ≤ n ∧ k ≤ 20 ∧ s6 = .int .i64 k ∧ ClOk 0 0 [] f ∧ Blk wr gc 46 (cliCells 0 0 (.slice A0 0 cc) f) ∧ Blk wr (gc + 1) 3 (four4 f) ∧ Below w.heap.size w wr) (fun s6 _ => 20 - (intOf s6).toNat)
  case atStart => exact ⟨0, _, none, 0, by omega, by omega, rfl, HK, E0, K0, bel0⟩
  case round =>
    clear E0 K0 bel0 HK bel1 hgc
    obtain ⟨k, f, A0, cc, hk, hk20, rfl, H, E, KB, bel⟩ := hrel
    by_cases hcond : k < n ∧ k < 20
    · obtain ⟨hkn, hk2⟩ := hcond
      obtain ⟨b, off, rfl, hb, g1, l1⟩ := row2 hl hs (hr.below bel) hkn
      have q0 : wr.cell? ⟨b, off + k * 2, none⟩ = _ := g1 0 (by omega)
      have q1 : wr.cell? ⟨b, off + k * 2 + 1, none⟩ = _ := g1 1 (by omega)
      obtain ⟨l10, l11⟩ := l1 0
      obtain ⟨l12, l13⟩ := l1 1
      clear g1 l1 hr hs
      generalize (rows.getD k []).getD 0 0 = z0 at *
      generalize (rows.getD k []).getD 1 0 = z1 at *
      have p0 := pick_lo z0 4 (by omega)
      have p1 := pick_hi z0 4 (by omega)
      have p2 := pick_lo z1 6 (by omega)
      have p3 := pick_hi z1 6 (by omega)
      have P4 := fun W => Lib.hid (picked_any z0 4 W l10 l11 (by omega) (by omega))
      have P6 := fun W => Lib.hid (picked_any z1 6 W l12 l13 (by omega) (by omega))
      obtain ⟨K, hK⟩ := Int.eq_ofNat_of_zero_le p0
      rw [hK] at P4 p1
      generalize pick z1 6 = N at *
      clear hK p0
      have hK4 : K < 4 := by omega
      have hI1 : (k : Int) < (n : Int) := by omega
      have hI2 : (k : Int) < 20 := by omega
      have i1 : IntKind.i64.wrap ((k : Int) + 1) = (k : Int) + 1 := IntWalk.i64_in _ (by omega)
      have i2 : IntKind.i64.wrap (N - 1) = N - 1 := IntWalk.i64_in _ (by omega)
      have CL := Lib.hid (fun W => clearn_ok 0 0 A0 0 cc 0 [] f K (N - 1) W H rfl (by omega) (by omega) Reads.none_ (Nat.zero_le _) hK4 (by omega) (by omega))
      have H2 := clok_upd H K (N - 1) (by omega) (by omega)
      go_wp2_with fail
      refine ((P4 _).out).mono ?_
      rintro e w2 ⟨rfl, rfl⟩
      go_wp2_with fail
      refine ((P6 _).out).mono ?_
      rintro e w2 ⟨rfl, rfl⟩
      obtain ⟨x0, x1, x2, x3, x4, x5, x6⟩ := cliBlk E
      go_wp2_with fail
      refine (CL.out _).mono ?_
      rintro e w3 ⟨v, rfl, o3, b3⟩
      obtain ⟨A3, c3, rfl, _, _⟩ := own_shape o3
      have E3 := E.below b3 E.lt
      have K3 := KB.below b3 KB.lt
      have bel3 := bel.trans (b3.mono bel.size)
      clear x0 x1 x2 x3 x4 x5 x6 E KB bel o3 b3 CL P4 P6 H q0 q1
      have HF := Lib.hid (four4_set f K (N - 1) hK4)
      obtain ⟨f', hf'⟩ : ∃ f', updW f K (N - 1) = f' := ⟨_, rfl⟩
      rw [hf'] at H2 HF ⊢
      clear hf'
      have kc3 := (K3.cell K).trans (four4_at f K hK4)
      obtain ⟨x0, x1, x2, x3, x4, x5, x6⟩ := cliBlk E3
      have xf := E3.frozen
      have xz := E3.lt
      have E4 := (putFrom_blk E3 [.int .i64 0, .int .i64 0, .slice A3 0 c3, .int .i64 (f' 0), .int .i64 (f' 1), .int .i64 (f' 2), .int .i64 (f' 3)] rfl).alloc (.cells #[.int .i64 0, .int .i64 0, .slice A3 0 c3, .int .i64 (f' 0), .int .i64 (f' 1), .int .i64 (f' 2), .int .i64 (f' 3)] 46)
      have K4 := (putFrom_far (g := gc) (show gc + 1 ≠ gc by omega) [.int .i64 0, .int .i64 0, .slice A3 0 c3, .int .i64 (f' 0), .int .i64 (f' 1), .int .i64 (f' 2), .int .i64 (f' 3)] 0 _ K3).alloc (.cells #[.int .i64 0, .int .i64 0, .slice A3 0 c3, .int .i64 (f' 0), .int .i64 (f' 1), .int .i64 (f' 2), .int .i64 (f' 3)] 46)
      have bel4 := (putFrom_below (g := gc) hgw [.int .i64 0, .int .i64 0, .slice A3 0 c3, .int .i64 (f' 0), .int .i64 (f' 1), .int .i64 (f' 2), .int .i64 (f' 3)] 0 _ bel3).alloc (by rw [putFrom_size]; exact bel3.size) (.cells #[.int .i64 0, .int .i64 0, .slice A3 0 c3, .int .i64 (f' 0), .int .i64 (f' 1), .int .i64 (f' 2), .int .i64 (f' 3)] 46)
      unfold cliCells
      go_upto_region 12 with fail
      rw [put7_eq]
      generalize (putFrom w3 gc 0 [.int .i64 0, .int .i64 0, .slice A3 0 c3, .int .i64 (f' 0), .int .i64 (f' 1), .int .i64 (f' 2), .int .i64 (f' 3)]).alloc (.cells #[.int .i64 0, .int .i64 0, .slice A3 0 c3, .int .i64 (f' 0), .int .i64 (f' 1), .int .i64 (f' 2), .int .i64 (f' 3)] 46) = w4 at *
      clear x0 x1 x2 x3 x4 x5 x6 xf xz E3 K3 bel3 kc3
      have kc := (K4.cell K).trans (four4_at f K hK4)
      have kf := K4.frozen
      have kI : (K : Int) < 4 := by omega
      have E5 := E4.far (p := ⟨gc + 1, K, none⟩) (by simp) (.int .i64 (N - 1))
      have K5 := K4.set_ K (.int .i64 (N - 1))
      rw [HF.out] at K5
      have bel5 := bel4.setCell (p := ⟨gc + 1, K, none⟩) (by simp; omega) (.int .i64 (N - 1))
      clear E4 K4 bel4
      go_wp2_with fail
      go_roundw
      case rel => exact ⟨k + 1, f', A3, c3, by omega, by omega, by go_num, H2, E5, K5, bel5⟩
      case measure => simp [intOf]; omega
    · have HD := Lib.hid hcond
      have hcc : ¬ (k : Int) < (n : Int) ∨ ((k : Int) < (n : Int) ∧ ¬ (k : Int) < 20) := by omega
      clear hcond
      rcases hcc with hI1 | ⟨hI1, hI2⟩
      all_goals
        go_wp2_with fail
        clear hr hs
        go_loopw [11] (fun s11 wx => ∃ q : Nat, q ≤ 4 ∧ s11 = .int .i64 q ∧ Blk wx gc 46 (cliCells 0 0 (.slice A0 0 cc) f) ∧ Blk wx (gc + 1) 3 (four4 f) ∧ Below w.heap.size w wx) (fun s11 _ => 4 - (intOf s11).toNat)
        case atStart => exact ⟨0, by omega, rfl, E, KB, bel⟩
        case round =>
          clear E KB bel
          obtain ⟨q, hq, rfl, E, KB, bel⟩ := hrel
          by_cases hq4 : q < 4
          · have CA := Lib.hid (fun W => cask_ok 0 0 A0 0 cc 0 [] f q W H rfl (by omega) Reads.none_ (Nat.zero_le _) hq4)
            obtain ⟨w0, w1'⟩ := H.wh q hq4
            have hqI : (q : Int) < 4 := by omega
            have i1 : IntKind.i64.wrap ((q : Int) + 1) = (q : Int) + 1 := IntWalk.i64_in _ (by omega)
            obtain ⟨x0, x1, x2, x3, x4, x5, x6⟩ := cliBlk E
            go_wp2_with fail
            refine (CA.out _).mono ?_
            rintro e w3 ⟨rfl, b3⟩
            have E3 := E.below b3 E.lt
            have K3 := KB.below b3 KB.lt
            have bel3 := bel.trans (b3.mono bel.size)
            clear x0 x1 x2 x3 x4 x5 x6 E KB bel b3 CA
            have kc := (K3.cell q).trans (four4_at f q hq4)
            generalize f q = z at *
            by_cases hneg : z < 0
            · rw [if_pos hneg, if_pos hneg]
              go_wp2_with fail
              go_roundw
              case rel => exact ⟨q + 1, by omega, by go_num, E3, K3, bel3⟩
              case measure => simp [intOf]; omega
            · rw [if_neg (by omega), if_neg (by omega)]
              go_wp2_with fail
              go_roundw
              case rel => exact ⟨q + 1, by omega, by go_num, E3, K3, bel3⟩
              case measure => simp [intOf]; omega
          · obtain rfl : q = 4 := by omega
            go_wp2_with fail
            go_ret
            exact ⟨ret_true (by simp), bel⟩

end Go.Proofs.Ytcbpgmpbjcknbaa
