/- WindowTurns: the walk. -/
import Derived.Test.YtogeeaplepiijaaWinTake
import Derived.Test.YtogeeaplepiijaaWinEq
import Derived.Test.YtogeeaplepiijaaPick
import Derived.IntWalk
import Derived.Deep.DeepCutAuto
import Derived.Test.YtogeeaplepiijaaView
namespace Go.Proofs.Ytogeeaplepiijaa
open Go.RowKit

theorem WOk.none_' : WOk 0 (fun _ => false) := ⟨by omega, by omega, fun _ h => by simp at h, fun h => by omega⟩

/-- a window behind ids that lie within eight from n on -/
structure Near (n : Int) (ids : List Int) (top : Int) (S : Int → Bool) : Prop where
  ok : WOk top S
  mem : ∀ x, S x = true ↔ x ∈ ids
  far : top ≤ n + 8

theorem Near.step {n top : Int} {ids : List Int} {S : Int → Bool} {id : Int} (h : Near n ids top S) (hn : 0 ≤ n) (hn' : n ≤ 1000) (h1 : n ≤ id) (h2 : id < n + 8) :
    ∃ top' S', Near n (ids ++ [id]) top' S' ∧ top - 8 ≤ id ∧
      ((S id = true ∧ top' = top ∧ S' = S) ∨ (S id = false ∧ max top (id + 1) = top' ∧ S' = fun x => S x || x == id)) := by
  have := h.far
  cases hs : S id with
  | true => exact ⟨top, S, ⟨h.ok, fun x => by
      rw [h.mem, List.mem_append]
      refine ⟨.inl, fun h' => ?_⟩
      rcases h' with h' | h'
      · exact h'
      · have e : x = id := by simpa using h'
        rw [e]
        exact (h.mem id).1 hs, h.far⟩, by omega, .inl ⟨rfl, rfl, rfl⟩⟩
  | false =>
    refine ⟨max top (id + 1), _, ⟨h.ok.take (by omega) (by omega), fun x => ?_, by omega⟩, by omega, .inr ⟨rfl, rfl, rfl⟩⟩
    rw [Bool.or_eq_true_iff, h.mem, List.mem_append, beq_iff_eq]
    simp

theorem Near.same {n t u : Int} {ids ids' : List Int} {S T : Int → Bool} (h : Near n ids t S) (k : Near n ids' u T) (he : ∀ x, x ∈ ids ↔ x ∈ ids') : t = u ∧ S = T := by
  have hST : ∀ x, S x = T x := fun x => by rw [Bool.eq_iff_iff, h.mem, k.mem, he]
  refine ⟨?_, funext hST⟩
  have a := h.ok.last
  have b := k.ok.last
  have := h.ok.lo
  have := k.ok.lo
  rcases Int.lt_trichotomy t u with hlt | rfl | hlt
  · have := b (by omega)
    rw [← hST] at this
    have := (h.ok.in_ _ this).2
    omega
  · rfl
  · have := a (by omega)
    rw [hST] at this
    have := (k.ok.in_ _ this).2
    omega

/-- the id that the i-th round takes -/
def turnId (n : Int) (zs : List Int) (i : Nat) : Int := n + pick (zs.getD i 0) 8
theorem turnId_bd (n : Int) (zs : List Int) (i : Nat) : n ≤ turnId n zs i ∧ turnId n zs i < n + 8 := by
  have := pick_lo (zs.getD i 0) 8 (by omega)
  have := pick_hi (zs.getD i 0) 8 (by omega)
  unfold turnId
  omega
def turnsTo (n : Int) (zs : List Int) (k i : Nat) : List Int := (List.range i).map fun j => turnId n zs ((j + k) % zs.length)
theorem turnsTo_succ (n : Int) (zs : List Int) (k i : Nat) : turnsTo n zs k (i + 1) = turnsTo n zs k i ++ [turnId n zs ((i + k) % zs.length)] := by
  simp [turnsTo, List.range_succ]
theorem turns_same (n : Int) (zs : List Int) (k : Nat) (x : Int) : x ∈ turnsTo n zs 0 zs.length ↔ x ∈ turnsTo n zs k zs.length := by
  have gen : ∀ k, x ∈ turnsTo n zs k zs.length ↔ ∃ j, j < zs.length ∧ x = turnId n zs j := by
    intro k
    unfold turnsTo
    rw [List.mem_map]
    constructor
    · rintro ⟨j, hj, rfl⟩
      have := List.mem_range.1 hj
      exact ⟨_, Nat.mod_lt _ (by omega), rfl⟩
    · rintro ⟨j, hj, rfl⟩
      refine ⟨(j + (zs.length - k % zs.length)) % zs.length, List.mem_range.2 (Nat.mod_lt _ (by omega)), ?_⟩
      have hk : k % zs.length < zs.length := Nat.mod_lt _ (by omega)
      have hd := Nat.div_add_mod k zs.length
      have e : ((j + (zs.length - k % zs.length)) % zs.length + k) % zs.length = j := by
        rw [Nat.mod_add_mod, show j + (zs.length - k % zs.length) + k = j + zs.length * (k / zs.length + 1) by rw [Nat.mul_add]; omega, Nat.add_mul_mod_self_left, Nat.mod_eq_of_lt hj]
      rw [e]
  rw [gen, gen]

/-- what Take gives at an id that is near -/
def TookPost (w : World) (n : Int) (ids : List Int) (e : Ending) (w' : World) : Prop :=
  ∃ top S q b, Near n ids top S ∧ Hid (shows top S = q) ∧ e = .returned (.tuple #[.agg #[.int .i64 top, .bool (q 0), .bool (q 1), .bool (q 2), .bool (q 3), .bool (q 4), .bool (q 5), .bool (q 6), .bool (q 7)], .bool b, .int .i64 0]) ∧ Below w.heap.size w w'

theorem take_near {n top : Int} {ids : List Int} {S : Int → Bool} {id : Int} (h : Near n ids top S) (hn : 0 ≤ n) (hn' : n ≤ 1000) (h1 : n ≤ id) (h2 : id < n + 8) (q : Nat → Bool) (hq : shows top S = q) (w : World) :
    Calls Try.prog 19 #[.agg (winCells top q), .int .i64 id] w (TookPost w n (ids ++ [id])) := by
  subst hq
  obtain ⟨top', S', hN, hl, hc⟩ := h.step hn hn' h1 h2
  rcases hc with ⟨hs, e1, e2⟩ | ⟨hs, ht, e2⟩
  · rw [e1, e2] at hN
    exact (wtake_seen top S id w h.ok (by omega) (by omega) hl hs).mono fun e w' ⟨he, hb⟩ => ⟨_, _, _, _, hN, rfl, he, hb⟩
  · rw [e2] at hN
    exact (wtake_fresh top S id w h.ok (by omega) (by omega) hl hs top' ht).mono fun e w' ⟨he, hb⟩ => ⟨_, _, _, _, hN, rfl, he, hb⟩

theorem mod_small (j k L : Nat) : (((j : Int) + (k : Int)) % (L : Int)).toNat = (j + k) % L := by
  rw [show (j : Int) + (k : Int) = ((j + k : Nat) : Int) by omega, ← Int.natCast_emod, Int.toNat_natCast]

set_option maxHeartbeats 1000000 in
theorem windowTurns_walk (a0 : Int) (A : Option Addr) (n c : Nat) (zs : List Int) (a2 : Int) (w : World) (h0 : Is64 a0) (h1 : IsNums .i64 8 w A n c zs) (h2 : Is64 a2) :
    Calls Try.prog 9 #[.int .i64 a0, .slice A n c, .int .i64 a2] w fun e w' => e = .returned (.bool true) ∧ Below w.heap.size w w' := by
  obtain ⟨h01, h02⟩ := h0
  obtain ⟨hl, hnc, hcb, hr, hwf⟩ := h1
  obtain ⟨h21, h22⟩ := h2
  have pn := pick_lo a0 1000 (by omega)
  have pn' := pick_hi a0 1000 (by omega)
  have pk := pick_lo a2 (n + 1) (by omega)
  have pk' := pick_hi a2 (n + 1) (by omega)
  go_enter Try.func9, Try.ntmps9
  go_wp2_with fail
  refine (picked_any _ _ _ (by omega) (by omega) (by omega) (by omega)).mono ?_
  rintro e w1 ⟨rfl, rfl⟩
  generalize pick a0 1000 = m at *
  go_wp2_with fail
  refine (picked_any _ _ _ (by omega) (by omega) (by omega) (by omega)).mono ?_
  rintro e w1 ⟨rfl, rfl⟩
  obtain ⟨k, hk⟩ := Int.eq_ofNat_of_zero_le pk
  rw [hk] at pk' ⊢
  clear hk pk
  go_wp2
  go_loopw [11] (fun s11 wr => ∃ i : Nat, i ≤ n ∧ i ≤ 20 ∧ s11 = .int .i64 i ∧ ∃ ta SA tb SB, Near m (turnsTo m zs 0 i) ta SA ∧ Near m (turnsTo m zs k i) tb SB ∧
      Blk wr w.heap.size 47 (winCells ta (shows ta SA)) ∧ Blk wr (w.heap.size + 1) 47 (winCells tb (shows tb SB)) ∧ Below w.heap.size w wr) (fun s11 _ => 20 - (intOf s11).toNat)
  case atStart => exact ⟨0, by omega, by omega, rfl, 0, fun _ => false, 0, fun _ => false, ⟨WOk.none_', by simp [turnsTo], by omega⟩, ⟨WOk.none_', by simp [turnsTo], by omega⟩,
    (Blk.new w 47 (winCells 0 (shows 0 fun _ => false))).alloc _, by have := Blk.new (w.alloc (.cells (winCells 0 (shows 0 fun _ => false)) 47)) 47 (winCells 0 (shows 0 fun _ => false)); rw [World.size_alloc] at this; exact this,
    ((Below.refl _ _).alloc (Nat.le_refl _) _).alloc (by simp) _⟩
  case round =>
    obtain ⟨i, hi, hi20, rfl, ta, SA, tb, SB, nA, nB, eA, eB, eW⟩ := hrel
    obtain ⟨a0', a1', a2', a3', a4', a5', a6', a7', a8'⟩ := winBlk eA
    obtain ⟨b0', b1', b2', b3', b4', b5', b6', b7', b8'⟩ := winBlk eB
    have zA := eA.lt
    have zB := eB.lt
    by_cases hin : i < n
    · by_cases hi2 : i < 20
      · obtain ⟨b, off, rfl, hbb, hcell⟩ := hr.plain (by omega) (by omega)
        have hget : ∀ j, j < n → wr.cell? ⟨b, off + j, none⟩ = some (.int .i64 (zs.getD j 0)) := fun j hj => (eW.cell (p := ⟨b, off + j, none⟩) hbb).trans (hcell j _ (by
          rw [List.getElem?_map, List.getElem?_eq_getElem (show j < zs.length by omega)]; simp [List.getD, List.getElem?_eq_getElem (show j < zs.length by omega)]))
        have hz64 : ∀ j, j < n → Is64 (zs.getD j 0) := fun j hj => is64_of_wf (hwf _ (by rw [List.getD, List.getElem?_eq_getElem (show j < zs.length by omega)]; simp))
        obtain ⟨j, hj⟩ : ∃ j, (i + k) % n = j := ⟨_, rfl⟩
        have hjn : j < n := by rw [← hj]; exact Nat.mod_lt _ (by omega)
        have g1 := hget i hin
        have hbw : b < w.heap.size := hbb
        have q1 : w.cell? ⟨b, off + i, none⟩ = some (.int .i64 (zs.getD i 0)) := (eW.cell (p := ⟨b, off + i, none⟩) hbb).symm.trans g1
        have q2 : w.cell? ⟨b, off + j, none⟩ = some (.int .i64 (zs.getD j 0)) := (eW.cell (p := ⟨b, off + j, none⟩) hbb).symm.trans (hget j hjn)
        have g2 := hget j hjn
        obtain ⟨l1, l2⟩ := hz64 i hin
        obtain ⟨l3, l4⟩ := hz64 j hjn
        have T1 := Lib.hid (fun W => take_near (id := m + pick (zs.getD i 0) 8) nA pn (by omega) (turnId_bd m zs i).1 (turnId_bd m zs i).2 _ rfl W)
        have T2 := Lib.hid (fun W => take_near (id := m + pick (zs.getD j 0) 8) nB pn (by omega) (turnId_bd m zs j).1 (turnId_bd m zs j).2 _ rfl W)
        have U1 := Lib.hid (show turnsTo m zs 0 (i + 1) = turnsTo m zs 0 i ++ [m + pick (zs.getD i 0) 8] by rw [turnsTo_succ, Nat.add_zero, Nat.mod_eq_of_lt (by omega)]; rfl)
        have U2 := Lib.hid (show turnsTo m zs k (i + 1) = turnsTo m zs k i ++ [m + pick (zs.getD j 0) 8] by rw [turnsTo_succ, hl, hj]; rfl)
        have W1 := Lib.hid (show turnId m zs i = m + pick (zs.getD i 0) 8 from rfl)
        have W2 := Lib.hid (show turnId m zs j = m + pick (zs.getD j 0) 8 from rfl)
        have p1 := pick_lo (zs.getD i 0) 8 (by omega)
        have p1' := pick_hi (zs.getD i 0) 8 (by omega)
        have p2 := pick_lo (zs.getD j 0) 8 (by omega)
        have p2' := pick_hi (zs.getD j 0) 8 (by omega)
        clear hget hz64 hcell hr hwf nA nB
        generalize shows ta SA = qa at *
        generalize shows tb SB = qb at *
        generalize zs.getD i 0 = z1 at *
        generalize zs.getD j 0 = z2 at *
        have hbwr : b < wr.heap.size := by have := eW.size; omega
        have ne1 : ¬ w.heap.size = wr.heap.size := by omega
        have ne2 : ¬ b = wr.heap.size := by omega
        have ne3 : ¬ wr.heap.size = w.heap.size := by omega
        have ne4 : ¬ wr.heap.size = b := by omega
        have ne5 : ¬ wr.heap.size = w.heap.size + 1 := by omega
        have ne6 : ¬ w.heap.size + 1 = wr.heap.size := by omega
        have HJ := Lib.hid hj
        clear hj
        have hw1 : IntKind.i64.wrap (m + pick z1 8) = m + pick z1 8 := IntWalk.i64_in _ (by omega)
        have hw2 : IntKind.i64.wrap (m + pick z2 8) = m + pick z2 8 := IntWalk.i64_in _ (by omega)
        go_upto_region 8 with fail
        go_cut [12, 13, 14] (fun s12 s13 s14 wx => ∃ g t1 S1 r1, s12 = .pointer (some ⟨g, 0, none⟩) ∧ s13 = .bool r1 ∧ s14 = .int .i64 0 ∧ Near m (turnsTo m zs 0 i ++ [m + pick z1 8]) t1 S1 ∧ Blk wx g 47 (winCells t1 (shows t1 S1)) ∧
          Blk wx w.heap.size 47 (winCells ta qa) ∧ Blk wx (w.heap.size + 1) 47 (winCells tb qb) ∧ w.heap.size + 1 < g ∧ wx.cell? ⟨b, off + i, none⟩ = some (.int .i64 z1) ∧ wx.cell? ⟨b, off + j, none⟩ = some (.int .i64 z2) ∧ Below w.heap.size w wx)
        case first =>
          go_region_held3 (fun W => W.cell? ⟨w.heap.size, 0, none⟩ = some (.int .i64 ta) ∧ W.cell? ⟨w.heap.size, 1, none⟩ = some (.bool (qa 0)) ∧ W.cell? ⟨w.heap.size, 2, none⟩ = some (.bool (qa 1)) ∧ W.cell? ⟨w.heap.size, 3, none⟩ = some (.bool (qa 2)) ∧ W.cell? ⟨w.heap.size, 4, none⟩ = some (.bool (qa 3)) ∧ W.cell? ⟨w.heap.size, 5, none⟩ = some (.bool (qa 4)) ∧ W.cell? ⟨w.heap.size, 6, none⟩ = some (.bool (qa 5)) ∧ W.cell? ⟨w.heap.size, 7, none⟩ = some (.bool (qa 6)) ∧ W.cell? ⟨w.heap.size, 8, none⟩ = some (.bool (qa 7)) ∧ W.cell? ⟨b, off + i, none⟩ = some (.int .i64 z1)) (go_keep)
            (first | (go_at_call 12; refine (picked_any _ _ _ (by omega) (by omega) (by omega) (by omega)).mono ?_; rintro e w' ⟨rfl, rfl⟩) | (go_at_call 19; refine (T1.out _).mono ?_; rintro e w2 ⟨t1, S1, qq, r1, n1, QQ, rfl, hb1⟩; have hsz := hb1.size; have eA2 : Blk w2 w.heap.size 47 (winCells ta qa) := (by first | exact eA.drew.below hb1 eA.lt | exact (eA.alloc _).drew.below hb1 (eA.alloc _).lt); have eB2 : Blk w2 (w.heap.size + 1) 47 (winCells tb qb) := (by first | exact eB.drew.below hb1 eB.lt | exact (eB.alloc _).drew.below hb1 (eB.alloc _).lt); have eW2 : Below w.heap.size w w2 := (by first | exact eW.drew.trans (hb1.mono eW.size) | exact (eW.alloc eW.size _).drew.trans (hb1.mono (eW.alloc eW.size _).size)); have zA2 := eA2.lt; have zB2 := eB2.lt; obtain ⟨x0, x1, x2, x3, x4, x5, x6, x7, x8⟩ := winBlk eA2; have y1 : w2.cell? ⟨b, off + i, none⟩ = some (.int .i64 z1) := (eW2.cell (p := ⟨b, off + i, none⟩) hbw).trans q1; have hbw2 : b < w2.heap.size := (by have := eW2.size; omega); try (have eN : Blk w2 wr.heap.size 47 (winCells 0 fun _ => false) := (Blk.new wr 47 (winCells 0 fun _ => false)).drew.below hb1 (by simp); have fN := eN.frozen; have zN := eN.lt; obtain ⟨n0, n1', n2, n3, n4, n5, n6, n7, n8⟩ := winBlk eN)))
          all_goals
            go_wp2_with fail
            go_meet
            first
              | (rw [put9_eq]
                 have eW3 := put9_below eW2 (show w.heap.size ≤ wr.heap.size by omega) t1 qq
                 exact ⟨wr.heap.size, t1, S1, r1, rfl, rfl, rfl, n1, by rw [QQ.out]; exact put9_blk eN _ _, put9_far eA2 ne1 _ _, put9_far eB2 ne6 _ _, by omega, (eW3.cell (p := ⟨b, off + i, none⟩) hbw).trans q1, (eW3.cell (p := ⟨b, off + j, none⟩) hbw).trans q2, eW3⟩)
              | exact ⟨w2.heap.size, t1, S1, r1, rfl, rfl, rfl, n1, by rw [QQ.out]; exact Blk.new _ _ _, eA2.alloc _, eB2.alloc _, by omega, ((eW2.alloc eW2.size _).cell (p := ⟨b, off + i, none⟩) hbw).trans q1, ((eW2.alloc eW2.size _).cell (p := ⟨b, off + j, none⟩) hbw).trans q2, eW2.alloc eW2.size _⟩
        case rest =>
          obtain ⟨g, t1, S1, r1, rfl, rfl, rfl, n1, eC, eA2, eB2, hg, y1, y2, eW2⟩ := hcut
          clear eA eB eW a0' a1' a2' a3' a4' a5' a6' a7' a8' b0' b1' b2' b3' b4' b5' b6' b7' b8' ne1 ne2 ne3 ne4 ne5 ne6 zA zB hbwr g1 g2 hw1
          have zC := eC.lt
          have zB := eB2.lt
          have hbwr : b < wc.heap.size := by omega
          obtain ⟨b0', b1', b2', b3', b4', b5', b6', b7', b8'⟩ := winBlk eB2
          have ne1 : ¬ w.heap.size = wc.heap.size := by omega
          have ne2 : ¬ b = wc.heap.size := by omega
          have ne3 : ¬ wc.heap.size = w.heap.size := by omega
          have ne4 : ¬ wc.heap.size = b := by omega
          have ne5 : ¬ wc.heap.size = w.heap.size + 1 := by omega
          have ne6 : ¬ w.heap.size + 1 = wc.heap.size := by omega
          have ne7 : ¬ g = wc.heap.size := by omega
          have ne8 : ¬ wc.heap.size = g := by omega
          have hm0 : (((i : Int) + (k : Int)) % (n : Int)) = (j : Int) := by rw [← HJ.out, Int.natCast_emod, Int.natCast_add]
          have hm1 : ((i : Int) + (k : Int)).tmod (n : Int) = (j : Int) := by rw [Int.tmod_eq_emod_of_nonneg (by omega)]; exact hm0
          have hm2 : IntKind.i64.wrap ((i : Int) + (k : Int)) = (i : Int) + (k : Int) := IntWalk.i64_in _ (by omega)
          have hm3 : IntKind.i64.wrap (j : Int) = (j : Int) := IntWalk.i64_in _ (by omega)
          have hj1 : (j : Int) < (n : Int) := by omega
          have hn0 : ((n : Int) == 0) = false := by rw [beq_eq_false_iff_ne]; omega
          have hn1 : ¬ n = 0 := by omega
          have hn2 : ((n : Int) == -1) = false := by rw [beq_eq_false_iff_ne]; omega
          have hj0 : (0 : Int) ≤ (j : Int) := by omega
          go_upto_region 9 with fail
          go_cut [15, 16, 17] (fun s15 s16 s17 wx => ∃ g' t2 S2 r2, s15 = .pointer (some ⟨g', 0, none⟩) ∧ s16 = .bool r2 ∧ s17 = .int .i64 0 ∧ Near m (turnsTo m zs k i ++ [m + pick z2 8]) t2 S2 ∧ Blk wx g' 47 (winCells t2 (shows t2 S2)) ∧
            Blk wx g 47 (winCells t1 (shows t1 S1)) ∧ Blk wx w.heap.size 47 (winCells ta qa) ∧ Blk wx (w.heap.size + 1) 47 (winCells tb qb) ∧ g < g' ∧ Below w.heap.size w wx)
          case first =>
            go_region_held3 (fun W => W.cell? ⟨w.heap.size + 1, 0, none⟩ = some (.int .i64 tb) ∧ W.cell? ⟨w.heap.size + 1, 1, none⟩ = some (.bool (qb 0)) ∧ W.cell? ⟨w.heap.size + 1, 2, none⟩ = some (.bool (qb 1)) ∧ W.cell? ⟨w.heap.size + 1, 3, none⟩ = some (.bool (qb 2)) ∧ W.cell? ⟨w.heap.size + 1, 4, none⟩ = some (.bool (qb 3)) ∧ W.cell? ⟨w.heap.size + 1, 5, none⟩ = some (.bool (qb 4)) ∧ W.cell? ⟨w.heap.size + 1, 6, none⟩ = some (.bool (qb 5)) ∧ W.cell? ⟨w.heap.size + 1, 7, none⟩ = some (.bool (qb 6)) ∧ W.cell? ⟨w.heap.size + 1, 8, none⟩ = some (.bool (qb 7)) ∧ W.cell? ⟨b, off + j, none⟩ = some (.int .i64 z2)) (go_keep)
              (first | (go_at_call 12; refine (picked_any _ _ _ (by omega) (by omega) (by omega) (by omega)).mono ?_; rintro e w' ⟨rfl, rfl⟩) | (go_at_call 19; refine (T2.out _).mono ?_; rintro e w2 ⟨t2, S2, qq, r2, n2, QQ, rfl, hb1⟩; have hsz := hb1.size; have eA3 : Blk w2 w.heap.size 47 (winCells ta qa) := (by first | exact eA2.drew.below hb1 eA2.lt | exact (eA2.alloc _).drew.below hb1 (eA2.alloc _).lt); have eB3 : Blk w2 (w.heap.size + 1) 47 (winCells tb qb) := (by first | exact eB2.drew.below hb1 eB2.lt | exact (eB2.alloc _).drew.below hb1 (eB2.alloc _).lt); have eC3 : Blk w2 g 47 (winCells t1 (shows t1 S1)) := (by first | exact eC.drew.below hb1 eC.lt | exact (eC.alloc _).drew.below hb1 (eC.alloc _).lt); have eW3 : Below w.heap.size w w2 := (by first | exact eW2.drew.trans (hb1.mono eW2.size) | exact (eW2.alloc eW2.size _).drew.trans (hb1.mono (eW2.alloc eW2.size _).size)); have zA3 := eA3.lt; have zB3 := eB3.lt; have zC3 := eC3.lt; obtain ⟨x0, x1, x2, x3, x4, x5, x6, x7, x8⟩ := winBlk eB3; have y3 : w2.cell? ⟨b, off + j, none⟩ = some (.int .i64 z2) := (eW3.cell (p := ⟨b, off + j, none⟩) hbw).trans q2; have hbw2 : b < w2.heap.size := (by have := eW3.size; omega); try (have eN : Blk w2 wc.heap.size 47 (winCells 0 fun _ => false) := (Blk.new wc 47 (winCells 0 fun _ => false)).drew.below hb1 (by simp); have fN := eN.frozen; have zN := eN.lt; obtain ⟨n0, n1', n2', n3, n4, n5, n6, n7, n8⟩ := winBlk eN)))
            all_goals
              go_wp2_with fail
              go_meet
              first
                | (rw [put9_eq]
                   have eW4 := put9_below eW3 (show w.heap.size ≤ wc.heap.size by omega) t2 qq
                   exact ⟨wc.heap.size, t2, S2, r2, rfl, rfl, rfl, n2, by rw [QQ.out]; exact put9_blk eN _ _, put9_far eC3 ne7 _ _, put9_far eA3 ne1 _ _, put9_far eB3 ne6 _ _, by omega, eW4⟩)
                | exact ⟨w2.heap.size, t2, S2, r2, rfl, rfl, rfl, n2, by rw [QQ.out]; exact Blk.new _ _ _, eC3.alloc _, eA3.alloc _, eB3.alloc _, by omega, eW3.alloc eW3.size _⟩
          case rest =>
            obtain ⟨g', t2, S2, r2, rfl, rfl, rfl, n2, eD, eC3, eA3, eB3, hgg, eW3⟩ := hcut
            clear eC eA2 eB2 eW2 y1 y2 b0' b1' b2' b3' b4' b5' b6' b7' b8' ne1 ne2 ne3 ne4 ne5 ne6 ne7 ne8 hm0 hm1 hm2 hm3 hj1 hj0 hn0 hn1 hn2 zB hbwr zC q1 q2 hw2
            rw [← U1.out] at n1
            rw [← U2.out] at n2
            obtain ⟨r, hr1⟩ : ∃ r, shows t1 S1 = r := ⟨_, rfl⟩
            obtain ⟨r', hr2⟩ : ∃ r, shows t2 S2 = r := ⟨_, rfl⟩
            rw [hr1] at eC3
            rw [hr2] at eD
            have R1 := Lib.hid hr1
            have R2 := Lib.hid hr2
            clear hr1 hr2
            obtain ⟨x0, x1, x2, x3, x4, x5, x6, x7, x8⟩ := winBlk eC3
            obtain ⟨a0', a1', a2', a3', a4', a5', a6', a7', a8'⟩ := winBlk eA3
            have fA := eA3.frozen
            have zz := eA3.lt
            go_upto_region 13 with fail
            rw [put9_eq]
            have eA4 := put9_blk eA3 t1 r
            have eB4 := put9_far eB3 (show w.heap.size + 1 ≠ w.heap.size by omega) t1 r
            have eD4 := put9_far eD (show g' ≠ w.heap.size by omega) t1 r
            have eW4 := put9_below eW3 (Nat.le_refl w.heap.size) t1 r
            generalize put9 wc w.heap.size t1 r = w4 at *
            clear eA3 eB3 eC3 eD eW3 x0 x1 x2 x3 x4 x5 x6 x7 x8 a0' a1' a2' a3' a4' a5' a6' a7' a8' fA
            obtain ⟨x0, x1, x2, x3, x4, x5, x6, x7, x8⟩ := winBlk eD4
            obtain ⟨a0', a1', a2', a3', a4', a5', a6', a7', a8'⟩ := winBlk eB4
            have fB := eB4.frozen
            go_wp2
            rw [put9_eq]
            have eA5 := put9_far eA4 (show w.heap.size ≠ w.heap.size + 1 by omega) t2 r'
            have eB5 := put9_blk eB4 t2 r'
            have eW5 := put9_below eW4 (show w.heap.size ≤ w.heap.size + 1 by omega) t2 r'
            go_roundw
            case rel => exact ⟨i + 1, by omega, by omega, by go_num, t1, S1, t2, S2, n1, n2, by rw [R1.out]; exact eA5, by rw [R2.out]; exact eB5, eW5⟩
            case measure => simp [intOf]; omega
      · -- twenty rounds are done, more would follow
        have hbig : (20 : Int) < (n : Int) := by omega
        have hi2I : ¬ (i : Int) < 20 := by omega
        have hinI : (i : Int) < (n : Int) := by omega
        clear hr hwf nA nB
        go_wp2
        go_ret
        exact ⟨rfl, eW⟩
    · -- all rounds are done
      obtain rfl : i = n := by omega
      obtain ⟨e1, e2⟩ := nA.same nB (fun x => by have := turns_same m zs k x; rwa [hl] at this)
      subst e1
      subst e2
      have htop : 0 < i → m < ta := fun hp => by
        have hx : turnId m zs 0 ∈ turnsTo m zs 0 i := List.mem_map.2 ⟨0, List.mem_range.2 hp, by rw [Nat.add_zero, Nat.zero_mod]⟩
        have := (nA.ok.in_ _ ((nA.mem _).2 hx)).2
        have := (turnId_bd m zs 0).1
        omega
      have hI : ¬ (i : Int) < (i : Int) := by omega
      have hI2 : ¬ (20 : Int) < (i : Int) := by omega
      have hg1 : Try.prog.eqGuardType Try.prog.depth 47 = false := by kernel_rfl
      have hq := win_eql
      generalize shows ta SA = q at *
      clear hr hwf nA nB
      by_cases h0 : i = 0
      · subst h0
        have hz : (((0 : Nat) : Int) == 0) = true := rfl
        clear htop
        go_wp2
        go_ret
        exact ⟨rfl, eW⟩
      · have ht := htop (by omega)
        have hz : ((i : Int) == 0) = false := by rw [beq_eq_false_iff_ne]; omega
        clear htop
        go_wp2
        go_ret
        exact ⟨rfl, eW⟩

end Go.Proofs.Ytogeeaplepiijaa
