/- Records: 'record' and 'pack.Record'. -/
import Derived.Test.YtcgamaponeglhaaEv
import Derived.Test.YtcgamaponeglhaaPut
import Derived.Deep.RegionHeld3
import Derived.Deep.DeepCutAuto
namespace Go.Proofs.Ytcgamaponeglhaa
open Go.RowKit

/-- a record -/
structure Rc where
  kind : Int
  queue : Int
  epoch : Int
  peer : Int
  ev : Ev

def Ev.zero : Ev := ⟨0, 0, 0, 0, 0, 0⟩
def Rc.cells (r : Rc) : Array Value := #[.int .i64 r.kind, .int .i64 r.queue, .int .i64 r.epoch, .int .i64 r.peer, .int .i64 r.ev.kind, .int .i64 r.ev.prod, .int .i64 r.ev.id, .int .i64 r.ev.body, .int .i64 r.ev.hep, .int .i64 r.ev.hno]
def Rc.val (r : Rc) : Value := .agg r.cells

/-- has a record of this kind an event? -/
def hasEv (k : Int) : Bool := k == 2 || k == 5

/-- what 'record' makes of raw numbers -/
def recOf (k a b c k' a' b' c' : Int) : Rc :=
  ⟨1 + pick k' 7, pick a' 4, pick b' 1048577, pick c' 5, if hasEv (1 + pick k' 7) then evOf k a b c else Ev.zero⟩

/-- what 'pack.Record' answers -/
def Rc.check (r : Rc) : Int :=
  if r.kind < 1 ∨ 7 < r.kind then 3
  else if (inB r.queue 0 3 && inB r.epoch 0 1048576 && inB r.peer 0 4) = false then 2
  else if hasEv r.kind then r.ev.check
  else if evNe r.ev.kind r.ev.prod r.ev.id r.ev.body r.ev.hep r.ev.hno 0 0 0 0 0 0 then 3 else 0

theorem hasEv_any (k : Int) (w : World) : Calls Try.prog 29 #[.int .i64 k] w fun e w' => e = .returned (.bool (hasEv k)) ∧ w = w' := by
  have HB := Lib.hid (show hasEv k = (k == 2 || k == 5) from rfl)
  generalize hasEv k = r at *
  cases h2 : k == 2 with
  | true =>
    go_enter Try.func29, Try.ntmps29
    go_wp2
    go_ret
    exact ⟨by rw [HB.out, h2]; rfl, rfl⟩
  | false =>
    go_enter Try.func29, Try.ntmps29
    go_wp2
    go_ret
    exact ⟨by rw [HB.out, h2]; rfl, rfl⟩

theorem rcBlk {w : World} {g : Nat} {t : TypeId} {r : Rc} (h : Blk w g t r.cells) :
    w.cell? ⟨g, 0, none⟩ = some (.int .i64 r.kind) ∧ w.cell? ⟨g, 1, none⟩ = some (.int .i64 r.queue) ∧ w.cell? ⟨g, 2, none⟩ = some (.int .i64 r.epoch) ∧ w.cell? ⟨g, 3, none⟩ = some (.int .i64 r.peer) ∧
      w.cell? ⟨g, 4, none⟩ = some (.int .i64 r.ev.kind) ∧ w.cell? ⟨g, 5, none⟩ = some (.int .i64 r.ev.prod) ∧ w.cell? ⟨g, 6, none⟩ = some (.int .i64 r.ev.id) ∧ w.cell? ⟨g, 7, none⟩ = some (.int .i64 r.ev.body) ∧
      w.cell? ⟨g, 8, none⟩ = some (.int .i64 r.ev.hep) ∧ w.cell? ⟨g, 9, none⟩ = some (.int .i64 r.ev.hno) :=
  ⟨h.cell 0, h.cell 1, h.cell 2, h.cell 3, h.cell 4, h.cell 5, h.cell 6, h.cell 7, h.cell 8, h.cell 9⟩

theorem rc_bad (q ep p : Int) (r : Rc) (hq : r.queue = q) (he : r.epoch = ep) (hp : r.peer = p) (h0 : 1 ≤ r.kind) (h1 : r.kind ≤ 7) (h : (inB q 0 3 && inB ep 0 1048576 && inB p 0 4) = false) : 2 = r.check := by
  subst hq he hp
  unfold Rc.check
  rw [if_neg (by omega), if_pos h]
theorem rc_ev (r : Rc) (h0 : 1 ≤ r.kind) (h1 : r.kind ≤ 7) (h : (inB r.queue 0 3 && inB r.epoch 0 1048576 && inB r.peer 0 4) = true) (he : hasEv r.kind = true) : r.ev.check = r.check := by
  unfold Rc.check
  rw [if_neg (by omega), if_neg (by rw [h]; simp), if_pos he]
theorem rc_no (r : Rc) (h0 : 1 ≤ r.kind) (h1 : r.kind ≤ 7) (h : (inB r.queue 0 3 && inB r.epoch 0 1048576 && inB r.peer 0 4) = true) (he : hasEv r.kind = false) :
    (if evNe r.ev.kind r.ev.prod r.ev.id r.ev.body r.ev.hep r.ev.hno 0 0 0 0 0 0 then 3 else 0) = r.check := by
  symm
  unfold Rc.check
  rw [if_neg (by omega), if_neg (by rw [h]; simp), if_neg (by rw [he]; simp)]

set_option maxHeartbeats 1000000 in
theorem recCheck_any (k q ep p a b c d e f : Int) (w : World) :
    Calls Try.prog 27 #[.agg #[.int .i64 k, .int .i64 q, .int .i64 ep, .int .i64 p, .int .i64 a, .int .i64 b, .int .i64 c, .int .i64 d, .int .i64 e, .int .i64 f]] w (Puts w (.int .i64 (Rc.check ⟨k, q, ep, p, ⟨a, b, c, d, e, f⟩⟩))) := by
  have hg : Try.prog.eqGuardType Try.prog.depth 27 = false := by kernel_rfl
  have hne := ev_neq
  by_cases k1 : k < 1
  · have H := Lib.hid (show 3 = Rc.check ⟨k, q, ep, p, ⟨a, b, c, d, e, f⟩⟩ by unfold Rc.check; rw [if_pos (.inl k1)])
    generalize Rc.check ⟨k, q, ep, p, ⟨a, b, c, d, e, f⟩⟩ = r at *
    go_enter Try.func27, Try.ntmps27
    go_wp2
    go_ret
    exact ⟨ret_int H.out, (Below.refl _ _).alloc (Nat.le_refl _) _⟩
  by_cases k7 : 7 < k
  · have H := Lib.hid (show 3 = Rc.check ⟨k, q, ep, p, ⟨a, b, c, d, e, f⟩⟩ by unfold Rc.check; rw [if_pos (.inr k7)])
    generalize Rc.check ⟨k, q, ep, p, ⟨a, b, c, d, e, f⟩⟩ = r at *
    go_enter Try.func27, Try.ntmps27
    go_wp2
    go_ret
    exact ⟨ret_int H.out, (Below.refl _ _).alloc (Nat.le_refl _) _⟩
  have HBad := Lib.hid (rc_bad q ep p ⟨k, q, ep, p, ⟨a, b, c, d, e, f⟩⟩ rfl rfl rfl (by simp; omega) (by simp; omega))
  have HEv := Lib.hid (rc_ev ⟨k, q, ep, p, ⟨a, b, c, d, e, f⟩⟩ (by simp; omega) (by simp; omega))
  have HNo := Lib.hid (rc_no ⟨k, q, ep, p, ⟨a, b, c, d, e, f⟩⟩ (by simp; omega) (by simp; omega))
  generalize Rc.check ⟨k, q, ep, p, ⟨a, b, c, d, e, f⟩⟩ = r at *
  cases h1 : inB q 0 3 with
  | false =>
    go_enter Try.func27, Try.ntmps27
    go_wp2_with fail
    refine (within_any _ _ _ _).mono ?_
    rintro e w1 ⟨rfl, rfl⟩
    rw [h1]
    go_wp2
    go_ret
    exact ⟨ret_int (HBad.out (by rw [h1]; rfl)), (Below.refl _ _).alloc (Nat.le_refl _) _⟩
  | true =>
    cases h2 : inB ep 0 1048576 with
    | false =>
      go_enter Try.func27, Try.ntmps27
      go_wp2_with fail
      refine (within_any _ _ _ _).mono ?_
      rintro e w1 ⟨rfl, rfl⟩
      rw [h1]
      go_wp2_with fail
      refine (within_any _ _ _ _).mono ?_
      rintro e w1 ⟨rfl, rfl⟩
      rw [h2]
      go_wp2
      go_ret
      exact ⟨ret_int (HBad.out (by rw [h1, h2]; rfl)), (Below.refl _ _).alloc (Nat.le_refl _) _⟩
    | true =>
      cases h3 : inB p 0 4 with
      | false =>
        go_enter Try.func27, Try.ntmps27
        go_wp2_with fail
        refine (within_any _ _ _ _).mono ?_
        rintro e w1 ⟨rfl, rfl⟩
        rw [h1]
        go_wp2_with fail
        refine (within_any _ _ _ _).mono ?_
        rintro e w1 ⟨rfl, rfl⟩
        rw [h2]
        go_wp2_with fail
        refine (within_any _ _ _ _).mono ?_
        rintro e w1 ⟨rfl, rfl⟩
        rw [h3]
        go_wp2
        go_ret
        exact ⟨ret_int (HBad.out (by rw [h1, h2, h3]; rfl)), (Below.refl _ _).alloc (Nat.le_refl _) _⟩
      | true =>
        cases he : hasEv k with
        | true =>
          have HE := Lib.hid (HEv.out (by simp [h1, h2, h3]) he)
          clear HBad HEv HNo
          go_enter Try.func27, Try.ntmps27
          go_wp2_with fail
          refine (within_any _ _ _ _).mono ?_
          rintro e w1 ⟨rfl, rfl⟩
          rw [h1]
          go_wp2_with fail
          refine (within_any _ _ _ _).mono ?_
          rintro e w1 ⟨rfl, rfl⟩
          rw [h2]
          go_wp2_with fail
          refine (within_any _ _ _ _).mono ?_
          rintro e w1 ⟨rfl, rfl⟩
          rw [h3]
          go_wp2_with fail
          refine (hasEv_any _ _).mono ?_
          rintro e w1 ⟨rfl, rfl⟩
          rw [he]
          go_wp2_with fail
          refine (check_any _ _ _ _ _ _ _).mono ?_
          rintro e w1 ⟨rfl, hb⟩
          go_wp2
          go_ret
          exact ⟨ret_int HE.out, ((Below.refl _ _).alloc (Nat.le_refl _) _).trans (hb.mono (by simp))⟩
        | false =>
          have HE := Lib.hid (HNo.out (by simp [h1, h2, h3]) he)
          clear HBad HEv HNo
          cases h4 : evNe a b c d e f 0 0 0 0 0 0 with
          | true =>
            go_enter Try.func27, Try.ntmps27
            go_wp2_with fail
            refine (within_any _ _ _ _).mono ?_
            rintro e w1 ⟨rfl, rfl⟩
            rw [h1]
            go_wp2_with fail
            refine (within_any _ _ _ _).mono ?_
            rintro e w1 ⟨rfl, rfl⟩
            rw [h2]
            go_wp2_with fail
            refine (within_any _ _ _ _).mono ?_
            rintro e w1 ⟨rfl, rfl⟩
            rw [h3]
            go_wp2_with fail
            refine (hasEv_any _ _).mono ?_
            rintro e w1 ⟨rfl, rfl⟩
            rw [he]
            go_wp2
            go_ret
            exact ⟨ret_int (by rw [← HE.out]; simp only [h4]; rfl), (Below.refl _ _).alloc (Nat.le_refl _) _⟩
          | false =>
            go_enter Try.func27, Try.ntmps27
            go_wp2_with fail
            refine (within_any _ _ _ _).mono ?_
            rintro e w1 ⟨rfl, rfl⟩
            rw [h1]
            go_wp2_with fail
            refine (within_any _ _ _ _).mono ?_
            rintro e w1 ⟨rfl, rfl⟩
            rw [h2]
            go_wp2_with fail
            refine (within_any _ _ _ _).mono ?_
            rintro e w1 ⟨rfl, rfl⟩
            rw [h3]
            go_wp2_with fail
            refine (hasEv_any _ _).mono ?_
            rintro e w1 ⟨rfl, rfl⟩
            rw [he]
            go_wp2
            go_ret
            exact ⟨ret_int (by rw [← HE.out]; simp only [h4]; rfl), (Below.refl _ _).alloc (Nat.le_refl _) _⟩

theorem rec_of (k a b c k' a' b' c' m : Int) (hm : pick k' 7 = m) :
    recOf k a b c k' a' b' c' = ⟨1 + m, pick a' 4, pick b' 1048577, pick c' 5, if hasEv (1 + m) then evOf k a b c else Ev.zero⟩ := by subst hm; rfl

set_option maxHeartbeats 1000000 in
theorem record_any (k a b c k' a' b' c' : Int) (w : World) (h0 : Is64 k) (h1 : Is64 a) (h2 : Is64 b) (h3 : Is64 c) (h4 : Is64 k') (h5 : Is64 a') (h6 : Is64 b') (h7 : Is64 c') :
    Calls Try.prog 13 #[.agg #[.int .i64 k, .int .i64 a, .int .i64 b, .int .i64 c], .agg #[.int .i64 k', .int .i64 a', .int .i64 b', .int .i64 c']] w (Puts w (recOf k a b c k' a' b' c').val) := by
  have CE := fun W => Lib.hid (event_any k a b c W h0 h1 h2 h3)
  clear h0 h1 h2 h3
  obtain ⟨h41, h42⟩ := h4
  obtain ⟨h51, h52⟩ := h5
  obtain ⟨h61, h62⟩ := h6
  obtain ⟨h71, h72⟩ := h7
  have px := pick_lo k' 7 (by omega)
  have px' := pick_hi k' 7 (by omega)
  have P0 := fun W => Lib.hid (picked_any k' 7 W (by omega) (by omega) (by omega) (by omega))
  have P1 := fun W => Lib.hid (picked_any a' 4 W (by omega) (by omega) (by omega) (by omega))
  have P2 := fun W => Lib.hid (picked_any b' 1048577 W (by omega) (by omega) (by omega) (by omega))
  have P3 := fun W => Lib.hid (picked_any c' 5 W (by omega) (by omega) (by omega) (by omega))
  obtain ⟨m, hm⟩ : ∃ m, pick k' 7 = m := ⟨_, rfl⟩
  have HV := Lib.hid (rec_of k a b c k' a' b' c' m hm)
  rw [hm] at px px' P0
  clear hm
  generalize recOf k a b c k' a' b' c' = r at *
  generalize evOf k a b c = ev at *
  generalize pick a' 4 = q at *
  generalize pick b' 1048577 = ep at *
  generalize pick c' 5 = p at *
  have i1 : IntKind.i64.wrap (1 + m) = 1 + m := IntWalk.i64_in _ (by omega)
  have HVn : ¬ m = 1 → ¬ m = 4 → r = ⟨1 + m, q, ep, p, Ev.zero⟩ := fun h1 h4 => by
    rw [HV.out, show hasEv (1 + m) = false by unfold hasEv; simp; omega]; rfl
  have HVe : m = 1 ∨ m = 4 → r = ⟨1 + m, q, ep, p, ev⟩ := fun h => by
    rw [HV.out, show hasEv (1 + m) = true by unfold hasEv; simp; omega]; rfl
  have HN := Lib.hid HVn
  have HE := Lib.hid HVe
  clear HV HVn HVe
  go_enter Try.func13, Try.ntmps13
  go_upto_region 1 with fail
  go_cut [5] (fun s5 wx => s5 = .pointer (some ⟨w.heap.size + 1 + 1 + 1, 0, none⟩) ∧ Blk wx w.heap.size 23 #[.int .i64 k, .int .i64 a, .int .i64 b, .int .i64 c] ∧
    Blk wx (w.heap.size + 1 + 1) 29 (Rc.cells ⟨0, 0, 0, 0, Ev.zero⟩) ∧ Blk wx (w.heap.size + 1 + 1 + 1) 29 (Rc.cells ⟨1 + m, q, ep, p, Ev.zero⟩) ∧ Below w.heap.size w wx)
  case first =>
    go_region_held3 (fun W => W.cell? ⟨w.heap.size + 1, 0, none⟩ = some (.int .i64 k') ∧ W.cell? ⟨w.heap.size + 1, 1, none⟩ = some (.int .i64 a') ∧ W.cell? ⟨w.heap.size + 1, 2, none⟩ = some (.int .i64 b') ∧ W.cell? ⟨w.heap.size + 1, 3, none⟩ = some (.int .i64 c')) (go_keep) (first | (go_at_call 17; (with_reducible refine (P0 _).out.mono ?_); rintro e w' ⟨rfl, rfl⟩) | (go_at_call 17; (with_reducible refine (P1 _).out.mono ?_); rintro e w' ⟨rfl, rfl⟩) | (go_at_call 17; (with_reducible refine (P2 _).out.mono ?_); rintro e w' ⟨rfl, rfl⟩) | (go_at_call 17; (with_reducible refine (P3 _).out.mono ?_); rintro e w' ⟨rfl, rfl⟩))
    all_goals
      go_wp2_with fail
      go_meet
      obtain ⟨b0, _, b2, b3, bb⟩ := blk4 w 23 23 29 29 #[.int .i64 k, .int .i64 a, .int .i64 b, .int .i64 c] #[.int .i64 k', .int .i64 a', .int .i64 b', .int .i64 c'] (Rc.cells ⟨0, 0, 0, 0, Ev.zero⟩) (Rc.cells ⟨1 + m, q, ep, p, Ev.zero⟩)
      exact ⟨rfl, b0, b2, b3, bb.drew⟩
  case rest =>
    obtain ⟨rfl, D0, D2, D3, bel⟩ := hcut
    obtain ⟨x0, x1, x2, x3, x4, x5, x6, x7, x8, x9⟩ := rcBlk D2
    obtain ⟨y0, y1, y2, y3, y4, y5, y6, y7, y8, y9⟩ := rcBlk D3
    have d0 := D0.cell 0
    have d1 := D0.cell 1
    have d2 := D0.cell 2
    have d3 := D0.cell 3
    have z3 := D3.lt
    have f2 := D2.frozen
    have f3 := D3.frozen
    by_cases hm : m = 1 ∨ m = 4
    · have hr := HE.out hm
      subst hr
      clear HE HN
      have W1 : w.heap.size < wc.heap.size := by omega
      rcases hm with rfl | rfl
      · go_wp2_with fail
        refine ((CE _).out).mono ?_
        rintro e w1 ⟨rfl, hb⟩
        have E2 := D2.below hb D2.lt
        have E3 := D3.below hb D3.lt
        have bel1 := bel.trans (hb.mono bel.size)
        clear hb D2 D3 D0 bel x0 x1 x2 x3 x4 x5 x6 x7 x8 x9 y0 y1 y2 y3 y4 y5 y6 y7 y8 y9 d0 d1 d2 d3 z3 f2 f3 W1 CE
        obtain ⟨x0, x1, x2, x3, x4, x5, x6, x7, x8, x9⟩ := rcBlk E2
        obtain ⟨y0, y1, y2, y3, y4, y5, y6, y7, y8, y9⟩ := rcBlk E3
        have z3 := E3.lt
        have f2 := E2.frozen
        have f3 := E3.frozen
        unfold Ev.val
        go_wp2
        exact bodyPost_ret (v := (⟨1 + 1, q, ep, p, ev⟩ : Rc).val) (by simp [results, Try.results13, go_sem, Rc.val, Rc.cells, *]) rfl ⟨rfl, by (repeat' (first | with_reducible exact bel1 | with_reducible refine Below.setCell ?_ ?_ _ | with_reducible refine Below.alloc ?_ ?_ _ | with_reducible refine Below.drew ?_)) <;> (simp <;> omega)⟩
      · go_wp2_with fail
        refine ((CE _).out).mono ?_
        rintro e w1 ⟨rfl, hb⟩
        have E2 := D2.below hb D2.lt
        have E3 := D3.below hb D3.lt
        have bel1 := bel.trans (hb.mono bel.size)
        clear hb D2 D3 D0 bel x0 x1 x2 x3 x4 x5 x6 x7 x8 x9 y0 y1 y2 y3 y4 y5 y6 y7 y8 y9 d0 d1 d2 d3 z3 f2 f3 W1 CE
        obtain ⟨x0, x1, x2, x3, x4, x5, x6, x7, x8, x9⟩ := rcBlk E2
        obtain ⟨y0, y1, y2, y3, y4, y5, y6, y7, y8, y9⟩ := rcBlk E3
        have z3 := E3.lt
        have f2 := E2.frozen
        have f3 := E3.frozen
        unfold Ev.val
        go_wp2
        exact bodyPost_ret (v := (⟨1 + 4, q, ep, p, ev⟩ : Rc).val) (by simp [results, Try.results13, go_sem, Rc.val, Rc.cells, *]) rfl ⟨rfl, by (repeat' (first | with_reducible exact bel1 | with_reducible refine Below.setCell ?_ ?_ _ | with_reducible refine Below.alloc ?_ ?_ _ | with_reducible refine Below.drew ?_)) <;> (simp <;> omega)⟩
    · have hr := HN.out (by omega) (by omega)
      subst hr
      have q2 : ((1 + m : Int) == 2) = false := beq_eq_false_iff_ne.2 (by omega)
      have q5 : ((1 + m : Int) == 5) = false := beq_eq_false_iff_ne.2 (by omega)
      clear HE HN CE hm
      go_wp2
      exact bodyPost_ret (v := (⟨1 + m, q, ep, p, Ev.zero⟩ : Rc).val) (by simp [results, Try.results13, go_sem, Rc.val, Rc.cells, Ev.zero, *]) rfl ⟨rfl, by (repeat' (first | with_reducible exact bel | with_reducible refine Below.setCell ?_ ?_ _ | with_reducible refine Below.alloc ?_ ?_ _ | with_reducible refine Below.drew ?_)) <;> (simp <;> omega)⟩

end Go.Proofs.Ytcgamaponeglhaa
