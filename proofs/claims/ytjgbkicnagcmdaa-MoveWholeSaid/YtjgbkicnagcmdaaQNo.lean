/- Queues: acts that change nothing. -/
import Derived.Test.YtjgbkicnagcmdaaQPub
import Derived.Test.YtjgbkicnagcmdaaQAckDo
namespace Go.Proofs.Ytjgbkicnagcmdaa
open Go.RowKit

theorem desk_same {w : World} {g n m c1 c2 : Nat} {A1 A2 : Option Addr} {ep nx gv : Int} {rd : List (Int × Int)} {ls : List (Int × Int × Int)} {t : Nat → Int} {f : Nat → Nat → Bool} (hn : rd.length = n) (hm : ls.length = m)
    (E : Blk w g 88 (qCells ep nx gv (.slice A1 n c1) (.slice A2 m c2) t f)) (h1 : n ≤ c1) (h2 : m ≤ c2) (o1 : w.ownsRow (g + 1) 91 2 (.slice A1 n c1) n (msgCells rd)) (o2 : w.ownsRow (g + 1) 94 4 (.slice A2 m c2) m (lsCells ep ls)) : DeskIs w g ep nx gv rd ls t f :=
  ⟨A1, c1, A2, c2, by rw [hn, hm]; exact ⟨E, h1, h2, Reads.of_own o1, Reads.of_own o2, own_fresh o1, own_fresh o2⟩⟩
/-- four stores into another block -/
def put4 (w : World) (ga : Nat) (a b c d : Int) : World := (((w.setCell ⟨ga, 0, none⟩ (.int .i64 a)).setCell ⟨ga, 1, none⟩ (.int .i64 b)).setCell ⟨ga, 2, none⟩ (.int .i64 c)).setCell ⟨ga, 3, none⟩ (.int .i64 d)
theorem put4_blk {w : World} {ga g : Nat} {ty : TypeId} {cs : Array Value} (h : Blk w g ty cs) (hg : g ≠ ga) (a b c d : Int) : Blk (put4 w ga a b c d) g ty cs :=
  (((h.far (p := ⟨ga, 0, none⟩) hg _).far (p := ⟨ga, 1, none⟩) hg _).far (p := ⟨ga, 2, none⟩) hg _).far (p := ⟨ga, 3, none⟩) hg _
theorem put4_own {w : World} {base size n ga : Nat} {e : TypeId} {u : Value} {xs : List Value} (h : w.ownsRow base e size u n xs) (hg : u.ownBlock ≠ some ga) (a b c d : Int) : (put4 w ga a b c d).ownsRow base e size u n xs :=
  ownsRow_setCell_other (a := ⟨ga, 3, none⟩) (ownsRow_setCell_other (a := ⟨ga, 2, none⟩) (ownsRow_setCell_other (a := ⟨ga, 1, none⟩) (ownsRow_setCell_other (a := ⟨ga, 0, none⟩) h hg _) hg _) hg _) hg _
theorem put4_below {w a : World} {B ga : Nat} (h : Below B a w) (hg : B ≤ ga) (x b c d : Int) : Below B a (put4 w ga x b c d) :=
  (((h.setCell (p := ⟨ga, 0, none⟩) hg _).setCell (p := ⟨ga, 1, none⟩) hg _).setCell (p := ⟨ga, 2, none⟩) hg _).setCell (p := ⟨ga, 3, none⟩) hg _
/-- the end of an act that changes nothing -/
theorem same_end {w w' : World} {g ga n m c1 c2 : Nat} {A1 A2 : Option Addr} {ep nx gv : Int} {rd : List (Int × Int)} {ls : List (Int × Int × Int)} {t : Nat → Int} {f : Nat → Nat → Bool} (hn : rd.length = n) (hm : ls.length = m) (hgga : g < ga)
    (E : Blk w' g 88 (qCells ep nx gv (.slice A1 n c1) (.slice A2 m c2) t f)) (F : Blk w' ga 50 #[.int .i64 0, .int .i64 0, .int .i64 0, .int .i64 0]) (h1 : n ≤ c1) (h2 : m ≤ c2) (o1 : w'.ownsRow (g + 1) 91 2 (.slice A1 n c1) n (msgCells rd)) (o2 : w'.ownsRow (g + 1) 94 4 (.slice A2 m c2) m (lsCells ep ls))
    (bel : Below g w w') (c : Int) : DeskIs (put4 w' ga c 0 0 0) g ep nx gv rd ls t f ∧ Below g w (put4 w' ga c 0 0 0) :=
  ⟨desk_same hn hm (put4_blk E (by omega) _ _ _ _) h1 h2 (put4_own o1 (own_blk_ne o1 F (by decide)) _ _ _ _) (put4_own o2 (own_blk_ne o2 F (by decide)) _ _ _ _), put4_below bel (by omega) _ _ _ _⟩

set_option maxRecDepth 100000 in
set_option maxHeartbeats 3000000 in
theorem publish_not (ep nx gv : Int) (rd : List (Int × Int)) (ls : List (Int × Int × Int)) (t : Nat → Int) (f : Nat → Nat → Bool) (g n m p : Nat) (v1 v2 : Value) (id body T c : Int) (q : Nat → Bool) (w : World)
    (E : Blk w g 88 (qCells ep nx gv v1 v2 t f)) (hn : rd.length = n) (hm : ls.length = m) (hp : p < 4)
    (o1 : w.ownsRow (g + 1) 91 2 v1 n (msgCells rd)) (o2 : w.ownsRow (g + 1) 94 4 v2 m (lsCells ep ls))
    (CT' : ∀ W, Calls Try.prog 53 #[.agg (winCells (t p) (f p)), .int .i64 id] W (Puts3 W (.agg (winCells T q)) (.bool false) (.int .i64 c))) (hc : c = 0 ∨ c = 9) :
    Calls Try.prog 41 #[.pointer (some ⟨g, 0, none⟩), .agg #[.int .i64 1, .int .i64 p, .int .i64 id, .int .i64 body, .int .i64 0, .int .i64 0]] w (ActPost g w (ansV c 0 0 0) false ep nx gv rd ls t f) := by
  obtain ⟨A1, c1, rfl, hc1, _⟩ := own_shape o1
  obtain ⟨A2, c2, rfl, hc2, _⟩ := own_shape o2
  unfold winCells at CT'
  have CT := Lib.hid CT'
  clear CT'
  have hgl := E.lt
  have E0 := (E.alloc (.cells #[.int .i64 1, .int .i64 p, .int .i64 id, .int .i64 body, .int .i64 0, .int .i64 0] 37)).alloc (.cells #[.int .i64 0, .int .i64 0, .int .i64 0, .int .i64 0] 50)
  have o1' := (o1.alloc (.cells #[.int .i64 1, .int .i64 p, .int .i64 id, .int .i64 body, .int .i64 0, .int .i64 0] 37)).alloc (.cells #[.int .i64 0, .int .i64 0, .int .i64 0, .int .i64 0] 50)
  have o2' := (o2.alloc (.cells #[.int .i64 1, .int .i64 p, .int .i64 id, .int .i64 body, .int .i64 0, .int .i64 0] 37)).alloc (.cells #[.int .i64 0, .int .i64 0, .int .i64 0, .int .i64 0] 50)
  have D0 := (Blk.new w 37 #[.int .i64 1, .int .i64 p, .int .i64 id, .int .i64 body, .int .i64 0, .int .i64 0]).alloc (.cells #[.int .i64 0, .int .i64 0, .int .i64 0, .int .i64 0] 50)
  have F0 := Blk.new' (w := w.alloc (.cells #[.int .i64 1, .int .i64 p, .int .i64 id, .int .i64 body, .int .i64 0, .int .i64 0] 37)) (g := w.heap.size + 1) (t := 50) (cs := #[.int .i64 0, .int .i64 0, .int .i64 0, .int .i64 0]) (by simp)
  have bel0 := ((Below.refl g w).alloc (Nat.le_of_lt hgl) (.cells #[.int .i64 1, .int .i64 p, .int .i64 id, .int .i64 body, .int .i64 0, .int .i64 0] 37)).alloc (by simp; omega) (.cells #[.int .i64 0, .int .i64 0, .int .i64 0, .int .i64 0] 50)
  have HP := Lib.hid (show ∀ w', DeskIs w' g ep nx gv rd ls t f → Below g w w' → ActPost g w (ansV c 0 0 0) false ep nx gv rd ls t f (.returned (.tuple #[ansV c 0 0 0, .bool false])) w' from fun w' a b => ⟨rfl, a, b⟩)
  generalize ActPost g w (ansV c 0 0 0) false ep nx gv rd ls t f = POST at *
  clear o1 o2 E
  go_enter Try.func41, Try.ntmps41
  go_upto_region 1 with fail
  obtain ⟨ga, hga⟩ : ∃ ga, ga = w.heap.size + 1 := ⟨_, rfl⟩
  obtain ⟨ge, hge⟩ : ∃ ge, ge = w.heap.size := ⟨_, rfl⟩
  have hgga : g < ga := by omega
  have hgge : g < ge := by omega
  have hgea : ge < ga := by omega
  rw [← hga] at F0 ⊢
  rw [← hge] at D0 ⊢
  generalize (w.alloc (.cells #[.int .i64 1, .int .i64 p, .int .i64 id, .int .i64 body, .int .i64 0, .int .i64 0] 37)).alloc (.cells #[.int .i64 0, .int .i64 0, .int .i64 0, .int .i64 0] 50) = w0 at *
  clear hga hge
  obtain ⟨u0, u1, u2, u3, u4, u5, u6, u7, u8⟩ := qWin E0 hp
  have hgz := E0.lt
  have hez := D0.lt
  have d1 := D0.cell 1
  have d2 := D0.cell 2
  have hpI : (p : Int) < 4 := by omega
  have n1 : ¬ g = w0.heap.size := by omega
  have n2 : ¬ w0.heap.size = g := by omega
  have n3 : ¬ ge = w0.heap.size := by omega
  have n4 : ¬ w0.heap.size = ge := by omega
  go_cut [6, 7, 8] (fun s6 s7 s8 wx => ∃ gw, s6 = .pointer (some ⟨gw, 0, none⟩) ∧ s7 = .bool false ∧ s8 = .int .i64 c ∧ Blk wx gw 43 (winCells T q) ∧ Below w0.heap.size w0 wx ∧ w0.heap.size ≤ gw)
  case first =>
    go_region_held3 (fun W => W.cell? ⟨g, 5 + p * 9, none⟩ = some (.int .i64 (t p)) ∧ W.cell? ⟨g, 5 + p * 9 + 1, none⟩ = some (.bool (f p 0)) ∧ W.cell? ⟨g, 5 + p * 9 + 2, none⟩ = some (.bool (f p 1)) ∧ W.cell? ⟨g, 5 + p * 9 + 3, none⟩ = some (.bool (f p 2)) ∧ W.cell? ⟨g, 5 + p * 9 + 4, none⟩ = some (.bool (f p 3)) ∧ W.cell? ⟨g, 5 + p * 9 + 5, none⟩ = some (.bool (f p 4)) ∧ W.cell? ⟨g, 5 + p * 9 + 6, none⟩ = some (.bool (f p 5)) ∧ W.cell? ⟨g, 5 + p * 9 + 7, none⟩ = some (.bool (f p 6)) ∧ W.cell? ⟨g, 5 + p * 9 + 8, none⟩ = some (.bool (f p 7)) ∧ W.cell? ⟨ge, 1, none⟩ = some (.int .i64 p) ∧ W.cell? ⟨ge, 2, none⟩ = some (.int .i64 id)) (go_keep)
      (first
        | (go_at_call 53; refine (CT.out _).mono ?_; rintro e w3 ⟨rfl, b3⟩; have eN : Blk w3 w0.heap.size 43 #[.int .i64 0, .bool false, .bool false, .bool false, .bool false, .bool false, .bool false, .bool false, .bool false] := (by first | exact ((Blk.new w0 _ _).drew).below b3 (by simp) | exact (Blk.new w0.drew _ _).below b3 (by simp)); have hbW : Below w0.heap.size w0 w3 := (by first | exact (Below.refl _ _).drew.trans (b3.mono (by simp)) | exact ((Below.refl _ _).alloc (Nat.le_refl _) _).drew.trans (b3.mono (by simp)) | exact ((Below.refl _ _).drew.alloc (by simp) _).trans (b3.mono (by simp))); have m1 : ¬ g = w3.heap.size := (by have := hbW.size; omega); have m2 : ¬ w3.heap.size = g := (by have := hbW.size; omega); have m3 : ¬ ge = w3.heap.size := (by have := hbW.size; omega); have m4 : ¬ w3.heap.size = ge := (by have := hbW.size; omega); have fN := eN.frozen; have zN := eN.lt; have c0 := eN.cell 0; have c1 := eN.cell 1; have c2 := eN.cell 2; have c3 := eN.cell 3; have c4 := eN.cell 4; have c5 := eN.cell 5; have c6 := eN.cell 6; have c7 := eN.cell 7; have c8 := eN.cell 8; have s0 := (hbW.cell (p := ⟨g, 5 + p * 9, none⟩) hgz).trans u0; have s1 := (hbW.cell (p := ⟨g, 5 + p * 9 + 1, none⟩) hgz).trans u1; have s2 := (hbW.cell (p := ⟨g, 5 + p * 9 + 2, none⟩) hgz).trans u2; have s3 := (hbW.cell (p := ⟨g, 5 + p * 9 + 3, none⟩) hgz).trans u3; have s4 := (hbW.cell (p := ⟨g, 5 + p * 9 + 4, none⟩) hgz).trans u4; have s5 := (hbW.cell (p := ⟨g, 5 + p * 9 + 5, none⟩) hgz).trans u5; have s6 := (hbW.cell (p := ⟨g, 5 + p * 9 + 6, none⟩) hgz).trans u6; have s7 := (hbW.cell (p := ⟨g, 5 + p * 9 + 7, none⟩) hgz).trans u7; have s8 := (hbW.cell (p := ⟨g, 5 + p * 9 + 8, none⟩) hgz).trans u8; have s9 := (hbW.cell (p := ⟨ge, 1, none⟩) hez).trans d1; have s10 := (hbW.cell (p := ⟨ge, 2, none⟩) hez).trans d2; clear b3)
        | (go_at_call 53; refine (CT.out _).mono ?_; rintro e w3 ⟨rfl, b3⟩; have hbW : Below w0.heap.size w0 w3 := (by first | exact (Below.refl _ _).drew.trans (b3.mono (by simp)) | exact ((Below.refl _ _).alloc (Nat.le_refl _) _).drew.trans (b3.mono (by simp)) | exact ((Below.refl _ _).drew.alloc (by simp) _).trans (b3.mono (by simp))); have m1 : ¬ g = w3.heap.size := (by have := hbW.size; omega); have m2 : ¬ w3.heap.size = g := (by have := hbW.size; omega); have m3 : ¬ ge = w3.heap.size := (by have := hbW.size; omega); have m4 : ¬ w3.heap.size = ge := (by have := hbW.size; omega); have s0 := (hbW.cell (p := ⟨g, 5 + p * 9, none⟩) hgz).trans u0; have s1 := (hbW.cell (p := ⟨g, 5 + p * 9 + 1, none⟩) hgz).trans u1; have s2 := (hbW.cell (p := ⟨g, 5 + p * 9 + 2, none⟩) hgz).trans u2; have s3 := (hbW.cell (p := ⟨g, 5 + p * 9 + 3, none⟩) hgz).trans u3; have s4 := (hbW.cell (p := ⟨g, 5 + p * 9 + 4, none⟩) hgz).trans u4; have s5 := (hbW.cell (p := ⟨g, 5 + p * 9 + 5, none⟩) hgz).trans u5; have s6 := (hbW.cell (p := ⟨g, 5 + p * 9 + 6, none⟩) hgz).trans u6; have s7 := (hbW.cell (p := ⟨g, 5 + p * 9 + 7, none⟩) hgz).trans u7; have s8 := (hbW.cell (p := ⟨g, 5 + p * 9 + 8, none⟩) hgz).trans u8; have s9 := (hbW.cell (p := ⟨ge, 1, none⟩) hez).trans d1; have s10 := (hbW.cell (p := ⟨ge, 2, none⟩) hez).trans d2; clear b3))
    all_goals
      go_wp2_with fail
      go_meet
      first
        | with_reducible exact ⟨_, rfl, rfl, rfl, win_put eN T q, win_put_below hbW (Nat.le_refl _) T q, Nat.le_refl _⟩
        | exact ⟨_, rfl, rfl, rfl, Blk.new w3 _ _, hbW.alloc hbW.size _, hbW.size⟩
  case rest =>
    obtain ⟨gw, rfl, rfl, rfl, W1, b1, hgw⟩ := hcut
    have E1 := E0.below b1 E0.lt
    have F1 := F0.below b1 F0.lt
    have o11 := own_below o1' b1 (Nat.le_refl _)
    have o21 := own_below o2' b1 (Nat.le_refl _)
    have bel1 := bel0.trans (b1.mono (Nat.le_of_lt hgz))
    clear u0 u1 u2 u3 u4 u5 u6 u7 u8 d1 d2 n1 n2 n3 n4 E0 D0 F0 o1' o2' bel0 b1 CT
    have f0 := F1.cell 0
    have f1 := F1.cell 1
    have f2 := F1.cell 2
    have f3 := F1.cell 3
    have ff := F1.frozen
    have fz := F1.lt
    have hfin := Lib.hid (HP.out _ (same_end hn hm hgga E1 F1 hc1 hc2 o11 o21 bel1 c).1 (same_end hn hm hgga E1 F1 hc1 hc2 o11 o21 bel1 c).2)
    unfold put4 at hfin
    clear o11 o21 bel1 E1 F1 W1 HP
    rcases hc with rfl | rfl
    all_goals
      go_wp2_with fail
      first
        | exact bodyPost_ret (v := .tuple #[.agg #[.int .i64 0, .int .i64 0, .int .i64 0, .int .i64 0], .bool false]) (by simp [results, Try.results41, go_sem, *]) rfl hfin.out
        | exact bodyPost_ret (v := .tuple #[.agg #[.int .i64 9, .int .i64 0, .int .i64 0, .int .i64 0], .bool false]) (by simp [results, Try.results41, go_sem, *]) rfl hfin.out

set_option maxRecDepth 100000 in
set_option maxHeartbeats 3000000 in
theorem receive_not (ep nx gv : Int) (ls : List (Int × Int × Int)) (t : Nat → Int) (f : Nat → Nat → Bool) (g m : Nat) (v1 v2 : Value) (ev : Array Value) (w : World)
    (E : Blk w g 88 (qCells ep nx gv v1 v2 t f)) (hm : ls.length = m)
    (o1 : w.ownsRow (g + 1) 91 2 v1 0 (msgCells [])) (o2 : w.ownsRow (g + 1) 94 4 v2 m (lsCells ep ls)) :
    Calls Try.prog 42 #[.pointer (some ⟨g, 0, none⟩), .agg ev] w (ActPost g w (ansV 10 0 0 0) false ep nx gv [] ls t f) := by
  obtain ⟨A1, c1, rfl, hc1, _⟩ := own_shape o1
  obtain ⟨A2, c2, rfl, hc2, _⟩ := own_shape o2
  have hgl := E.lt
  have E0 := (E.alloc (.cells ev 37)).alloc (.cells #[.int .i64 0, .int .i64 0, .int .i64 0, .int .i64 0] 50)
  have o1' := (o1.alloc (.cells ev 37)).alloc (.cells #[.int .i64 0, .int .i64 0, .int .i64 0, .int .i64 0] 50)
  have o2' := (o2.alloc (.cells ev 37)).alloc (.cells #[.int .i64 0, .int .i64 0, .int .i64 0, .int .i64 0] 50)
  have F0 := Blk.new' (w := w.alloc (.cells ev 37)) (g := w.heap.size + 1) (t := 50) (cs := #[.int .i64 0, .int .i64 0, .int .i64 0, .int .i64 0]) (by simp)
  have bel0 := ((Below.refl g w).alloc (Nat.le_of_lt hgl) (.cells ev 37)).alloc (by simp; omega) (.cells #[.int .i64 0, .int .i64 0, .int .i64 0, .int .i64 0] 50)
  have HP := Lib.hid (show ∀ w', DeskIs w' g ep nx gv [] ls t f → Below g w w' → ActPost g w (ansV 10 0 0 0) false ep nx gv [] ls t f (.returned (.tuple #[ansV 10 0 0 0, .bool false])) w' from fun w' a b => ⟨rfl, a, b⟩)
  generalize ActPost g w (ansV 10 0 0 0) false ep nx gv [] ls t f = POST at *
  clear o1 o2 E
  go_enter Try.func42, Try.ntmps42
  go_upto_region 1 with fail
  obtain ⟨ga, hga⟩ : ∃ ga, ga = w.heap.size + 1 := ⟨_, rfl⟩
  have hgga : g < ga := by omega
  rw [← hga] at F0 ⊢
  generalize (w.alloc (.cells ev 37)).alloc (.cells #[.int .i64 0, .int .i64 0, .int .i64 0, .int .i64 0] 50) = w0 at *
  clear hga
  obtain ⟨x0, x1, x2, x3, x4⟩ := qBlk E0
  have hgz := E0.lt
  have f0 := F0.cell 0
  have f1 := F0.cell 1
  have f2 := F0.cell 2
  have f3 := F0.cell 3
  have ff := F0.frozen
  have fz := F0.lt
  have hfin := Lib.hid (HP.out _ (same_end (n := 0) rfl hm hgga E0 F0 hc1 hc2 o1' o2' bel0 10).1 (same_end (n := 0) rfl hm hgga E0 F0 hc1 hc2 o1' o2' bel0 10).2)
  unfold put4 at hfin
  clear o1' o2' bel0 E0 F0 HP
  go_wp2_with fail
  exact bodyPost_ret (v := .tuple #[.agg #[.int .i64 10, .int .i64 0, .int .i64 0, .int .i64 0], .bool false]) (by simp [results, Try.results42, go_sem, *]) rfl hfin.out

set_option maxRecDepth 100000 in
set_option maxHeartbeats 3000000 in
theorem ack_stale (ep nx gv : Int) (rd : List (Int × Int)) (ls : List (Int × Int × Int)) (t : Nat → Int) (f : Nat → Nat → Bool) (g n m : Nat) (v1 v2 : Value) (e0 e1 e2 e3 he id : Int) (w : World)
    (E : Blk w g 88 (qCells ep nx gv v1 v2 t f)) (hn : rd.length = n) (hm : ls.length = m)
    (o1 : w.ownsRow (g + 1) 91 2 v1 n (msgCells rd)) (o2 : w.ownsRow (g + 1) 94 4 v2 m (lsCells ep ls)) (hep : he ≠ ep) :
    Calls Try.prog 43 #[.pointer (some ⟨g, 0, none⟩), .agg #[.int .i64 e0, .int .i64 e1, .int .i64 e2, .int .i64 e3, .int .i64 he, .int .i64 id]] w (ActPost g w (ansV 11 0 0 0) false ep nx gv rd ls t f) := by
  have hne1 : (he == ep) = false := beq_eq_false_iff_ne.2 hep
  have hne2 : (he != ep) = true := bne_iff_ne.2 hep
  have hne3 : decide (he = ep) = false := decide_eq_false hep
  clear hep
  obtain ⟨A1, c1, rfl, hc1, _⟩ := own_shape o1
  obtain ⟨A2, c2, rfl, hc2, _⟩ := own_shape o2
  have hgl := E.lt
  have E0 := (E.alloc (.cells #[.int .i64 e0, .int .i64 e1, .int .i64 e2, .int .i64 e3, .int .i64 he, .int .i64 id] 37)).alloc (.cells #[.int .i64 0, .int .i64 0, .int .i64 0, .int .i64 0] 50)
  have o1' := (o1.alloc (.cells #[.int .i64 e0, .int .i64 e1, .int .i64 e2, .int .i64 e3, .int .i64 he, .int .i64 id] 37)).alloc (.cells #[.int .i64 0, .int .i64 0, .int .i64 0, .int .i64 0] 50)
  have o2' := (o2.alloc (.cells #[.int .i64 e0, .int .i64 e1, .int .i64 e2, .int .i64 e3, .int .i64 he, .int .i64 id] 37)).alloc (.cells #[.int .i64 0, .int .i64 0, .int .i64 0, .int .i64 0] 50)
  have D0 := (Blk.new w 37 #[.int .i64 e0, .int .i64 e1, .int .i64 e2, .int .i64 e3, .int .i64 he, .int .i64 id]).alloc (.cells #[.int .i64 0, .int .i64 0, .int .i64 0, .int .i64 0] 50)
  have F0 := Blk.new' (w := w.alloc (.cells #[.int .i64 e0, .int .i64 e1, .int .i64 e2, .int .i64 e3, .int .i64 he, .int .i64 id] 37)) (g := w.heap.size + 1) (t := 50) (cs := #[.int .i64 0, .int .i64 0, .int .i64 0, .int .i64 0]) (by simp)
  have bel0 := ((Below.refl g w).alloc (Nat.le_of_lt hgl) (.cells #[.int .i64 e0, .int .i64 e1, .int .i64 e2, .int .i64 e3, .int .i64 he, .int .i64 id] 37)).alloc (by simp; omega) (.cells #[.int .i64 0, .int .i64 0, .int .i64 0, .int .i64 0] 50)
  have HP := Lib.hid (show ∀ w', DeskIs w' g ep nx gv rd ls t f → Below g w w' → ActPost g w (ansV 11 0 0 0) false ep nx gv rd ls t f (.returned (.tuple #[ansV 11 0 0 0, .bool false])) w' from fun w' a b => ⟨rfl, a, b⟩)
  generalize ActPost g w (ansV 11 0 0 0) false ep nx gv rd ls t f = POST at *
  clear o1 o2 E
  go_enter Try.func43, Try.ntmps43
  go_upto_region 1 with fail
  obtain ⟨ga, hga⟩ : ∃ ga, ga = w.heap.size + 1 := ⟨_, rfl⟩
  obtain ⟨ge, hge⟩ : ∃ ge, ge = w.heap.size := ⟨_, rfl⟩
  have hgga : g < ga := by omega
  have hgge : g < ge := by omega
  have hgea : ge < ga := by omega
  rw [← hga] at F0 ⊢
  rw [← hge] at D0 ⊢
  generalize (w.alloc (.cells #[.int .i64 e0, .int .i64 e1, .int .i64 e2, .int .i64 e3, .int .i64 he, .int .i64 id] 37)).alloc (.cells #[.int .i64 0, .int .i64 0, .int .i64 0, .int .i64 0] 50) = w0 at *
  clear hga hge
  obtain ⟨x0, x1, x2, x3, x4⟩ := qBlk E0
  have hgz := E0.lt
  have d4 := D0.cell 4
  have d5 := D0.cell 5
  have hdz := D0.lt
  go_quiet (fail)
  have E1 : Blk (w0.drewN nq) g 88 _ := E0.drewN nq
  have D1 : Blk (w0.drewN nq) ge 37 _ := D0.drewN nq
  have F1 : Blk (w0.drewN nq) ga 50 _ := F0.drewN nq
  have o11 : (w0.drewN nq).ownsRow (g + 1) 91 2 _ n _ := o1'
  have o21 : (w0.drewN nq).ownsRow (g + 1) 94 4 _ m _ := o2'
  have bel1 := below_drewN bel0 nq
  generalize w0.drewN nq = w1 at *
  clear x0 x1 x2 x3 x4 hgz d4 d5 hdz E0 D0 F0 o1' o2' bel0
  have f0 := F1.cell 0
  have f1 := F1.cell 1
  have f2 := F1.cell 2
  have f3 := F1.cell 3
  have ff := F1.frozen
  have fz := F1.lt
  have hfin := Lib.hid (HP.out _ (same_end hn hm hgga E1 F1 hc1 hc2 o11 o21 bel1 11).1 (same_end hn hm hgga E1 F1 hc1 hc2 o11 o21 bel1 11).2)
  unfold put4 at hfin
  clear o11 o21 bel1 E1 F1 HP
  go_wp2_with fail
  exact bodyPost_ret (v := .tuple #[.agg #[.int .i64 11, .int .i64 0, .int .i64 0, .int .i64 0], .bool false]) (by simp [results, Try.results43, go_sem, *]) rfl hfin.out

set_option maxRecDepth 100000 in
set_option maxHeartbeats 3000000 in
theorem ack_none (ep nx gv : Int) (rd : List (Int × Int)) (ls : List (Int × Int × Int)) (t : Nat → Int) (f : Nat → Nat → Bool) (g n m : Nat) (v1 v2 : Value) (e0 e1 e2 e3 id : Int) (w : World)
    (E : Blk w g 88 (qCells ep nx gv v1 v2 t f)) (hn : rd.length = n) (hm : ls.length = m)
    (o1 : w.ownsRow (g + 1) 91 2 v1 n (msgCells rd)) (o2 : w.ownsRow (g + 1) 94 4 v2 m (lsCells ep ls)) (hlen : n + m ≤ 500) (hno : ∀ t, t < m → (ls.getD t (0, 0, 0)).1 ≠ id) :
    Calls Try.prog 43 #[.pointer (some ⟨g, 0, none⟩), .agg #[.int .i64 e0, .int .i64 e1, .int .i64 e2, .int .i64 e3, .int .i64 ep, .int .i64 id]] w (ActPost g w (ansV 7 0 0 0) false ep nx gv rd ls t f) := by
  obtain ⟨A1, c1, rfl, hc1, _⟩ := own_shape o1
  obtain ⟨A2, c2, rfl, hc2, _⟩ := own_shape o2
  have hgl := E.lt
  have E0 := (E.alloc (.cells #[.int .i64 e0, .int .i64 e1, .int .i64 e2, .int .i64 e3, .int .i64 ep, .int .i64 id] 37)).alloc (.cells #[.int .i64 0, .int .i64 0, .int .i64 0, .int .i64 0] 50)
  have o1' := (o1.alloc (.cells #[.int .i64 e0, .int .i64 e1, .int .i64 e2, .int .i64 e3, .int .i64 ep, .int .i64 id] 37)).alloc (.cells #[.int .i64 0, .int .i64 0, .int .i64 0, .int .i64 0] 50)
  have o2' := (o2.alloc (.cells #[.int .i64 e0, .int .i64 e1, .int .i64 e2, .int .i64 e3, .int .i64 ep, .int .i64 id] 37)).alloc (.cells #[.int .i64 0, .int .i64 0, .int .i64 0, .int .i64 0] 50)
  have D0 := (Blk.new w 37 #[.int .i64 e0, .int .i64 e1, .int .i64 e2, .int .i64 e3, .int .i64 ep, .int .i64 id]).alloc (.cells #[.int .i64 0, .int .i64 0, .int .i64 0, .int .i64 0] 50)
  have F0 := Blk.new' (w := w.alloc (.cells #[.int .i64 e0, .int .i64 e1, .int .i64 e2, .int .i64 e3, .int .i64 ep, .int .i64 id] 37)) (g := w.heap.size + 1) (t := 50) (cs := #[.int .i64 0, .int .i64 0, .int .i64 0, .int .i64 0]) (by simp)
  have bel0 := ((Below.refl g w).alloc (Nat.le_of_lt hgl) (.cells #[.int .i64 e0, .int .i64 e1, .int .i64 e2, .int .i64 e3, .int .i64 ep, .int .i64 id] 37)).alloc (by simp; omega) (.cells #[.int .i64 0, .int .i64 0, .int .i64 0, .int .i64 0] 50)
  have HP := Lib.hid (show ∀ w', DeskIs w' g ep nx gv rd ls t f → Below g w w' → ActPost g w (ansV 7 0 0 0) false ep nx gv rd ls t f (.returned (.tuple #[ansV 7 0 0 0, .bool false])) w' from fun w' a b => ⟨rfl, a, b⟩)
  generalize ActPost g w (ansV 7 0 0 0) false ep nx gv rd ls t f = POST at *
  clear o1 o2 E
  go_enter Try.func43, Try.ntmps43
  go_upto_region 1 with fail
  obtain ⟨ga, hga⟩ : ∃ ga, ga = w.heap.size + 1 := ⟨_, rfl⟩
  obtain ⟨ge, hge⟩ : ∃ ge, ge = w.heap.size := ⟨_, rfl⟩
  have hgga : g < ga := by omega
  have hgge : g < ge := by omega
  have hgea : ge < ga := by omega
  rw [← hga] at F0 ⊢
  rw [← hge] at D0 ⊢
  generalize (w.alloc (.cells #[.int .i64 e0, .int .i64 e1, .int .i64 e2, .int .i64 e3, .int .i64 ep, .int .i64 id] 37)).alloc (.cells #[.int .i64 0, .int .i64 0, .int .i64 0, .int .i64 0] 50) = w0 at *
  clear hga hge
  obtain ⟨x0, x1, x2, x3, x4⟩ := qBlk E0
  have hgz := E0.lt
  have d4 := D0.cell 4
  have d5 := D0.cell 5
  have hdz := D0.lt
  go_quiet (fail)
  have E1 : Blk (w0.drewN nq) g 88 _ := E0.drewN nq
  have D1 : Blk (w0.drewN nq) ge 37 _ := D0.drewN nq
  have F1 : Blk (w0.drewN nq) ga 50 _ := F0.drewN nq
  have o11 : (w0.drewN nq).ownsRow (g + 1) 91 2 _ n _ := o1'
  have o21 : (w0.drewN nq).ownsRow (g + 1) 94 4 _ m _ := o2'
  have bel1 := below_drewN bel0 nq
  generalize w0.drewN nq = w1 at *
  clear x0 x1 x2 x3 x4 hgz d4 d5 hdz E0 D0 F0 o1' o2' bel0
  obtain ⟨x0, x1, x2, x3, x4⟩ := qBlk E1
  go_wp2_with fail
  refine (index_ls ep A2 m c2 w1.heap.size ls id (-1) ge w1 hm (by omega) (Reads.of_own o21) (Nat.le_refl _) (D1.cell 4) (D1.cell 5) (.inr ⟨rfl, fun t ht => hno t (by omega)⟩)).mono ?_
  rintro e w2 ⟨rfl, b2⟩
  have E2 := E1.below b2 E1.lt
  have F2 := F1.below b2 F1.lt
  have o12 := own_below o11 b2 (Nat.le_refl _)
  have o22 := own_below o21 b2 (Nat.le_refl _)
  have bel2 := bel1.trans (b2.mono (Nat.le_of_lt E1.lt))
  clear x0 x1 x2 x3 x4 E1 D1 F1 o11 o21 bel1 b2 hno
  have E1 := E2
  have F1 := F2
  have o11 := o12
  have o21 := o22
  have bel1 := bel2
  clear E2 F2 o12 o22 bel2
  have f0 := F1.cell 0
  have f1 := F1.cell 1
  have f2 := F1.cell 2
  have f3 := F1.cell 3
  have ff := F1.frozen
  have fz := F1.lt
  have hfin := Lib.hid (HP.out _ (same_end hn hm hgga E1 F1 hc1 hc2 o11 o21 bel1 7).1 (same_end hn hm hgga E1 F1 hc1 hc2 o11 o21 bel1 7).2)
  unfold put4 at hfin
  clear o11 o21 bel1 E1 F1 HP
  go_wp2_with fail
  exact bodyPost_ret (v := .tuple #[.agg #[.int .i64 7, .int .i64 0, .int .i64 0, .int .i64 0], .bool false]) (by simp [results, Try.results43, go_sem, *]) rfl hfin.out

end Go.Proofs.Ytjgbkicnagcmdaa
