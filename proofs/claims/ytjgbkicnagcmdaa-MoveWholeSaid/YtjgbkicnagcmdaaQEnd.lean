/- Queues: 'end' ends all leases. -/
import Derived.Test.YtjgbkicnagcmdaaSrt
import Derived.Test.YtjgbkicnagcmdaaQStep
namespace Go.Proofs.Ytjgbkicnagcmdaa
open Go.RowKit Go.Maps

theorem Reads.offB {w : World} {B size n : Nat} {A : Option Addr} {xs : List Value} (h : Reads w B size A n xs) {p : Addr} (hA : ∀ ad, A = some ad → ad.block ≠ p.block) (u : Value) : Reads (w.setCell p u) B size A n xs :=
  ⟨h.1, fun hn => by
    obtain ⟨ad, e, hb, hc⟩ := h.2 hn
    have := hA ad e
    exact ⟨ad, e, hb, fun j v hv => (World.cell?_setCell_other w p _ u (fun e => by
      have h3 := congrArg Addr.block e
      rw [block_of_add] at h3
      omega)).trans (hc j v hv)⟩⟩

set_option maxRecDepth 100000 in
set_option maxHeartbeats 4000000 in
theorem end_ok (ep nx gv : Int) (rd : List (Int × Int)) (ls : List (Int × Int × Int)) (t : Nat → Int) (f : Nat → Nat → Bool) (g n m : Nat) (v1 v2 : Value) (ev : Array Value) (w : World)
    (E : Blk w g 88 (qCells ep nx gv v1 v2 t f)) (hn : rd.length = n) (hm : ls.length = m)
    (o1 : w.ownsRow (g + 1) 91 2 v1 n (msgCells rd)) (o2 : w.ownsRow (g + 1) 94 4 v2 m (lsCells ep ls)) (hlen : n + m ≤ 500) (he0 : 0 ≤ ep) (he1 : ep < 1048576)
    (hd : ((rd ++ ls.map Prod.snd).map Prod.fst).Nodup) :
    Calls Try.prog 44 #[.pointer (some ⟨g, 0, none⟩), .agg ev] w (ActPost g w (ansV 0 0 0 0) true (ep + 1) nx 0 ((rd ++ ls.map Prod.snd).mergeSort byNo) [] t f) := by
  obtain ⟨i0, hi0, hz0, hz1, hz2⟩ := info_parts msg_info
  obtain ⟨A1, c1, rfl, hc1, _⟩ := own_shape o1
  obtain ⟨A2, c2, rfl, hc2, _⟩ := own_shape o2
  have hgl := E.lt
  have E0 := (E.alloc (.cells ev 37)).alloc (.cells #[.int .i64 0, .int .i64 0, .int .i64 0, .int .i64 0] 50)
  have o1' := (o1.alloc (.cells ev 37)).alloc (.cells #[.int .i64 0, .int .i64 0, .int .i64 0, .int .i64 0] 50)
  have o2' := (o2.alloc (.cells ev 37)).alloc (.cells #[.int .i64 0, .int .i64 0, .int .i64 0, .int .i64 0] 50)
  have F0 := Blk.new' (w := w.alloc (.cells ev 37)) (g := w.heap.size + 1) (t := 50) (cs := #[.int .i64 0, .int .i64 0, .int .i64 0, .int .i64 0]) (by simp)
  have bel0 := ((Below.refl g w).alloc (Nat.le_of_lt hgl) (.cells ev 37)).alloc (by simp; omega) (.cells #[.int .i64 0, .int .i64 0, .int .i64 0, .int .i64 0] 50)
  have HP := Lib.hid (show ∀ w', DeskIs w' g (ep + 1) nx 0 ((rd ++ ls.map Prod.snd).mergeSort byNo) [] t f → Below g w w' → ActPost g w (ansV 0 0 0 0) true (ep + 1) nx 0 ((rd ++ ls.map Prod.snd).mergeSort byNo) [] t f (.returned (.tuple #[ansV 0 0 0 0, .bool true])) w' from fun w' a b => ⟨rfl, a, b⟩)
  generalize ActPost g w (ansV 0 0 0 0) true (ep + 1) nx 0 ((rd ++ ls.map Prod.snd).mergeSort byNo) [] t f = POST at *
  clear o1 o2 E
  have HD := Lib.hid hd
  clear hd
  go_enter Try.func44, Try.ntmps44
  go_upto_region 1 with fail
  obtain ⟨ga, hga⟩ : ∃ ga, ga = w.heap.size + 1 := ⟨_, rfl⟩
  have hgga : g < ga := by omega
  rw [← hga] at F0 ⊢
  generalize (w.alloc (.cells ev 37)).alloc (.cells #[.int .i64 0, .int .i64 0, .int .i64 0, .int .i64 0] 50) = w0 at *
  clear hga hgl
  obtain ⟨x0, x1, x2, x3, x4⟩ := qBlk E0
  have hgz := E0.lt
  have hep : (ep == 1048576) = false := by rw [beq_eq_false_iff_ne]; omega
  have hep2 : decide (ep = 1048576) = false := decide_eq_false (by omega)
  have i1 : IntKind.i64.wrap (ep + 1) = ep + 1 := IntWalk.i64_in _ (by omega)
  have nga : ¬ ga = g := by omega
  have nga' : ¬ g = ga := by omega
  go_wp2_with fail
  have o1s : w0.ownsRow (g + 1) 91 2 (.slice A1 (n + 0) c1) (n + 0) (msgCells (rd ++ (ls.map Prod.snd).take 0)) := by simpa using o1'
  clear x0 x1 x2 x3 x4 hgz hep hep2
  go_loopw [21] (fun s21 wr => ∃ (k : Nat) (A : Option Addr) (c : Nat), k ≤ m ∧ s21 = .int .i64 k ∧ Blk wr g 88 (qCells ep nx gv (.slice A (n + k) c) (.slice A2 m c2) t f) ∧ Blk wr ga 50 #[.int .i64 0, .int .i64 0, .int .i64 0, .int .i64 0] ∧
      wr.ownsRow (g + 1) 91 2 (.slice A (n + k) c) (n + k) (msgCells (rd ++ (ls.map Prod.snd).take k)) ∧ wr.ownsRow (g + 1) 94 4 (.slice A2 m c2) m (lsCells ep ls) ∧ Below g w wr) (fun s21 _ => m - (intOf s21).toNat)
  case atStart => exact ⟨0, A1, c1, by omega, rfl, E0, F0, o1s, o2', bel0⟩
  case round =>
    clear E0 F0 o1s o1' o2' bel0
    obtain ⟨k, A, c, hk, rfl, E, F, oM, oL, bel⟩ := hrel
    by_cases hcond : k < m
    · have hI1 : (k : Int) < (m : Int) := by omega
      have hk0 : (0 : Int) ≤ (k : Int) := by omega
      have hmc2 : (m : Int) ≤ (c2 : Int) := by omega
      have i2 : IntKind.i64.wrap ((k : Int) + 1) = (k : Int) + 1 := IntWalk.i64_in _ (by omega)
      obtain ⟨b, off, hA, hb, y0, y1, y2, y3⟩ := lsAt (Reads.of_own oL) hm hcond
      have htake : (ls.map Prod.snd).take (k + 1) = (ls.map Prod.snd).take k ++ [(ls.getD k (0, 0, 0)).2] := by
        rw [List.take_add_one]
        have : (ls.map Prod.snd)[k]? = some (ls.getD k (0, 0, 0)).2 := by
          rw [List.getElem?_map, List.getElem?_eq_getElem (show k < ls.length by omega), List.getD, List.getElem?_eq_getElem (show k < ls.length by omega)]
          rfl
        rw [this]
        rfl
      have HT := Lib.hid (show msgCells (rd ++ (ls.map Prod.snd).take k) ++ [.int .i64 (ls.getD k (0, 0, 0)).2.1, .int .i64 (ls.getD k (0, 0, 0)).2.2] = msgCells (rd ++ (ls.map Prod.snd).take (k + 1)) from by
        rw [htake, ← List.append_assoc, show (ls.getD k (0, 0, 0)).2 = ((ls.getD k (0, 0, 0)).2.1, (ls.getD k (0, 0, 0)).2.2) from rfl, msgCells_snoc])
      clear htake
      generalize (ls.getD k (0, 0, 0)).1 = l1 at *
      generalize (ls.getD k (0, 0, 0)).2.1 = l2 at *
      generalize (ls.getD k (0, 0, 0)).2.2 = l3 at *
      subst hA
      obtain ⟨x0, x1, x2, x3, x4⟩ := qBlk E
      have hgz := E.lt
      go_upto_region 6 with fail
      have E5 := E.alloc (.cells #[.int .i64 ep, .int .i64 l1, .int .i64 l2, .int .i64 l3] 94)
      have L5 := Blk.new wr 94 #[.int .i64 ep, .int .i64 l1, .int .i64 l2, .int .i64 l3]
      have F5 := F.alloc (.cells #[.int .i64 ep, .int .i64 l1, .int .i64 l2, .int .i64 l3] 94)
      have oM5 := oM.alloc (.cells #[.int .i64 ep, .int .i64 l1, .int .i64 l2, .int .i64 l3] 94)
      have oL5 := oL.alloc (.cells #[.int .i64 ep, .int .i64 l1, .int .i64 l2, .int .i64 l3] 94)
      have bel5 := bel.alloc (Nat.le_of_lt hgz) (.cells #[.int .i64 ep, .int .i64 l1, .int .i64 l2, .int .i64 l3] 94)
      obtain ⟨gl, hgl⟩ : ∃ gl, gl = wr.heap.size := ⟨_, rfl⟩
      have ngl : ¬ gl = g := by omega
      have ngl' : ¬ g = gl := by omega
      rw [← hgl] at L5 ⊢
      generalize wr.alloc (.cells #[.int .i64 ep, .int .i64 l1, .int .i64 l2, .int .i64 l3] 94) = w5 at *
      clear x0 x1 x2 x3 x4 y0 y1 y2 y3 hb hgz E F oM oL bel hgl
      obtain ⟨x0, x1, x2, x3, x4⟩ := qBlk E5
      have hgf := E5.frozen
      have hgz := E5.lt
      have l0 := L5.cell 0
      have l1' := L5.cell 1
      have l2' := L5.cell 2
      have l3' := L5.cell 3
      have hlz := L5.lt
      obtain ⟨c', rfl⟩ : ∃ c', c' = c := ⟨_, rfl⟩
      obtain ⟨_, _, hA, hcc, _⟩ := own_shape oM5
      cases hA
      have OD : w5.drew.ownsRow (g + 1) 91 2 (.slice A (n + k) c') (n + k) (msgCells (rd ++ (ls.map Prod.snd).take k)) := oM5
      have o7 := OD.alloc (.cells #[.int .i64 l2, .int .i64 l3] 91)
      have rR := reads_oneQ w5.drew 91 #[.int .i64 l2, .int .i64 l3] 2 rfl
      have E7 : Blk (w5.drew.alloc (.cells #[.int .i64 l2, .int .i64 l3] 91)) g 88 _ := (E5.drew).alloc (.cells #[.int .i64 l2, .int .i64 l3] 91)
      have F7 : Blk (w5.drew.alloc (.cells #[.int .i64 l2, .int .i64 l3] 91)) ga 50 _ := (F5.drew).alloc (.cells #[.int .i64 l2, .int .i64 l3] 91)
      have o27 : (w5.drew.alloc (.cells #[.int .i64 l2, .int .i64 l3] 91)).ownsRow (g + 1) 94 4 (.slice (some ⟨b, off, none⟩) m c2) m (lsCells ep ls) := (show w5.drew.ownsRow (g + 1) 94 4 (.slice (some ⟨b, off, none⟩) m c2) m (lsCells ep ls) from oL5).alloc (.cells #[.int .i64 l2, .int .i64 l3] 91)
      have bel7 : Below g w (w5.drew.alloc (.cells #[.int .i64 l2, .int .i64 l3] 91)) := bel5.drew.alloc (Nat.le_of_lt hgz) (.cells #[.int .i64 l2, .int .i64 l3] 91)
      have ne7 := own_blk_ne o7 E7 (by decide)
      have neF := own_blk_ne o7 F7 (by decide)
      have neL := own_rows_ne o27 o7 (by decide)
      go_region_law (first
        | (refine step_append_any _ rfl (.tmp 30) (.tmp 33) _ rfl (g + 1) 91 i0 _ 2 16 Try.underlying39 hi0 hz0 hz1 hz2 rfl (by omega) (.slice A (n + k) c') (n + k) (msgCells (rd ++ (ls.map Prod.snd).take k)) rfl o7 _ _ 1 1 _ rfl rR (by intro u hu; simp at hu; rcases hu with h | h <;> subst h <;> rfl) (by simp only [maxLen]; omega) (by omega) (by simp; omega) ?_; intro v8 w8 o8 g8 at8; obtain ⟨A8, c8, rfl, hc8, _⟩ := own_shape o8; have E8 := E7.grown g8 (fun h => ne7 h.symm); have F8 := F7.grown g8 (fun h => neF h.symm); have o28 := o27.kept g8 neL; have bel8 := bel7.grown g8 (by simp; omega) (fun k hk => by have := own_blk_geQ o7 k hk; omega); have f8 := E8.frozen; have z8 := E8.lt; have q8 : w8.cell? ⟨g, 3, none⟩ = some (.slice A (n + k) c') := (qBlk E8).2.2.2.1))
      all_goals
        have o9 := ownsRow_setCell_other (a := ⟨g, 3, none⟩) o8 (own_blk_ne o8 E8 (by decide)) (.slice A8 (n + k + 1) c8)
        have o29 := ownsRow_setCell_other (a := ⟨g, 3, none⟩) o28 (own_blk_ne o28 E8 (by decide)) (.slice A8 (n + k + 1) c8)
        have E9 := E8.set_ 3 (.slice A8 (n + k + 1) c8)
        rw [qset3] at E9
        have F9 := F8.far (p := ⟨g, 3, none⟩) nga (.slice A8 (n + k + 1) c8)
        have bel9 := bel8.setCell (p := ⟨g, 3, none⟩) (Nat.le_refl _) (.slice A8 (n + k + 1) c8)
        have e9 : (#[Value.int .i64 l2, .int .i64 l3] : Array Value).toList = [.int .i64 l2, .int .i64 l3] := rfl
        rw [e9, HT.out] at o9
        generalize w8.setCell ⟨g, 3, none⟩ (.slice A8 (n + k + 1) c8) = w9 at *
        clear x0 x1 x2 x3 x4 hgf hgz l0 l1' l2' l3' hlz E7 F7 E5 F5 L5 oM5 oL5 OD o7 o27 rR bel5 bel7 ne7 neF neL HT E8 F8 o8 o28 bel8 f8 z8 q8 g8 at8
        go_wp2_with fail
        go_roundw
        case rel => exact ⟨k + 1, A8, c8, by omega, by go_num, E9, F9, o9, o29, bel9⟩
        case measure => simp [intOf]; omega
    · have hI1 : ¬ (k : Int) < (m : Int) := by omega
      have hkm : k = m := by omega
      subst hkm
      have htk : (ls.map Prod.snd).take k = ls.map Prod.snd := List.take_of_length_le (by simp; omega)
      rw [htk] at oM
      obtain ⟨x0, x1, x2, x3, x4⟩ := qBlk E
      have hgz := E.lt
      have neF := own_blk_ne oM F (by decide)
      have neE := own_blk_ne oM E (by decide)
      have hlL : (rd ++ ls.map Prod.snd).length = n + k := by simp; omega
      have CS := Lib.hid (sort_msgs (rd ++ ls.map Prod.snd) (.slice A (n + k) c) (n + k) (g + 1) wr oM hlL HD.out (by omega))
      have hnb := own_blk_geQ oM
      have hAa : ∀ ad, A = some ad → ad.block ≠ ga := fun ad e h => neF (by subst e; simp [Value.ownBlock, h])
      clear oM oL
      go_wp2_with fail
      refine (CS.out).mono ?_
      rintro e w2 ⟨rfl, A3, c3, row, hv, hc3, hgr, hrow, r3, fr3⟩
      rw [hlL] at hv hc3 r3
      cases hv
      have E2 := E.grown hgr (fun h => neE (hrow _ h.symm))
      have F2 := F.grown hgr (fun h => neF (hrow _ h.symm))
      have bel2 := bel.grown hgr (by omega) (fun j hj => by have := hnb j (hrow _ hj); omega)
      clear x0 x1 x2 x3 x4 hgz E F bel CS hgr hrow neF neE hnb
      obtain ⟨x0, x1, x2, x3, x4⟩ := qBlk E2
      have hgf := E2.frozen
      have hgz := E2.lt
      have f0 := F2.cell 0
      have f1 := F2.cell 1
      have f2 := F2.cell 2
      have f3 := F2.cell 3
      have ff := F2.frozen
      have fz := F2.lt
      have EF := (E2.set_ 4 (.slice none 0 0))
      rw [qset4] at EF
      have EF2 := EF.set_ 0 (.int .i64 (ep + 1))
      rw [qset0] at EF2
      have EF3 := EF2.set_ 2 (.int .i64 0)
      rw [qset2] at EF3
      have EFF := (((EF3.far (p := ⟨ga, 0, none⟩) nga' (.int .i64 0)).far (p := ⟨ga, 1, none⟩) nga' (.int .i64 0)).far (p := ⟨ga, 2, none⟩) nga' (.int .i64 0)).far (p := ⟨ga, 3, none⟩) nga' (.int .i64 0)
      have bF := ((((((bel2.setCell (p := ⟨g, 4, none⟩) (Nat.le_refl _) (.slice none 0 0)).setCell (p := ⟨g, 0, none⟩) (Nat.le_refl _) (.int .i64 (ep + 1))).setCell (p := ⟨g, 2, none⟩) (Nat.le_refl _) (.int .i64 0)).setCell (p := ⟨ga, 0, none⟩) (Nat.le_of_lt hgga) (.int .i64 0)).setCell (p := ⟨ga, 1, none⟩) (Nat.le_of_lt hgga) (.int .i64 0)).setCell (p := ⟨ga, 2, none⟩) (Nat.le_of_lt hgga) (.int .i64 0)).setCell (p := ⟨ga, 3, none⟩) (Nat.le_of_lt hgga) (.int .i64 0)
      have hAg : ∀ ad, A = some ad → ad.block ≠ g := fun ad e => by have := fr3 ad e; omega
      have hrF := ((((((r3.offB (p := ⟨g, 4, none⟩) hAg (.slice none 0 0)).offB (p := ⟨g, 0, none⟩) hAg (.int .i64 (ep + 1))).offB (p := ⟨g, 2, none⟩) hAg (.int .i64 0)).offB (p := ⟨ga, 0, none⟩) hAa (.int .i64 0)).offB (p := ⟨ga, 1, none⟩) hAa (.int .i64 0)).offB (p := ⟨ga, 2, none⟩) hAa (.int .i64 0)).offB (p := ⟨ga, 3, none⟩) hAa (.int .i64 0)
      have hl2 : ((rd ++ ls.map Prod.snd).mergeSort byNo).length = n + k := by rw [List.length_mergeSort]; exact hlL
      have hfin := Lib.hid (HP.out _ ⟨A, c, none, 0, by rw [hl2]; exact EFF, by rw [hl2]; exact hc3, Nat.le_refl _, by rw [hl2]; exact ⟨hrF.1, fun h => by obtain ⟨ad, e, hb, hc⟩ := hrF.2 h; exact ⟨ad, e, by simpa using hb, hc⟩⟩, ⟨rfl, fun h => absurd h (by simp)⟩, fr3, fun _ h => by cases h⟩ bF)
      clear hrF EF EF2 EF3 EFF bF HP r3 fr3 hAg hAa E2 F2 bel2
      go_wp2_with fail
      exact bodyPost_ret (v := .tuple #[.agg #[.int .i64 0, .int .i64 0, .int .i64 0, .int .i64 0], .bool true]) (by simp [results, Try.results44, go_sem, *]) rfl hfin.out

theorem QM.Inv.end_ok {q : QM} (hi : q.Inv) (hr : q.Room 1) : EndOk q := by
  intro g W v1 v2 ev hg o1 o2
  obtain ⟨s1, s2, s3, s4⟩ := hr
  have he0 := hi.e0
  refine Go.Proofs.Ytjgbkicnagcmdaa.end_ok q.ep q.nx q.gv q.rd q.ls q.t _ g _ _ v1 v2 ev W hg rfl rfl o1 o2 (by omega) he0 (by omega) ?_
  have := hi.apart
  simpa [List.map_append, List.map_map, Function.comp_def] using this
/-- queue.Do is a step of the model, whatever the event -/
theorem do_any (q : QM) (e : Ev) (v : Value) (lo B : Nat) (w : World) (hi : q.Inv) (hr : q.Room 1) (he : e.check = 0) (hv : QIs w lo B q v) (hB : B ≤ w.heap.size) :
    Calls Try.prog 20 #[v, e.val] w (StepPost w (q.step e).1 (q.step e).2.1 (q.step e).2.2) :=
  do_step q e v lo B w hi hr he hv hB fun _ => hi.end_ok hr

end Go.Proofs.Ytjgbkicnagcmdaa
