/- Queues: 'publish' of a message that is new. -/
import Derived.Test.YtjgbkicnagcmdaaQDesk
import Derived.Test.YtjgbkicnagcmdaaWqTake
import Derived.Deep.RegionHeld3
import Derived.BigQuiet
namespace Go.Proofs.Ytjgbkicnagcmdaa
open Go.RowKit

def setF {α : Type} (f : Nat → α) (q : Nat) (x : α) : Nat → α := fun i => if i = q then x else f i
theorem qWin {w : World} {g p : Nat} {ty : TypeId} {ep nx gv : Int} {vr vl : Value} {t : Nat → Int} {f : Nat → Nat → Bool} (h : Blk w g ty (qCells ep nx gv vr vl t f)) (hp : p < 4) :
    w.cell? ⟨g, 5 + p * 9, none⟩ = some (.int .i64 (t p)) ∧ w.cell? ⟨g, 5 + p * 9 + 1, none⟩ = some (.bool (f p 0)) ∧ w.cell? ⟨g, 5 + p * 9 + 2, none⟩ = some (.bool (f p 1)) ∧ w.cell? ⟨g, 5 + p * 9 + 3, none⟩ = some (.bool (f p 2)) ∧ w.cell? ⟨g, 5 + p * 9 + 4, none⟩ = some (.bool (f p 3)) ∧
      w.cell? ⟨g, 5 + p * 9 + 5, none⟩ = some (.bool (f p 4)) ∧ w.cell? ⟨g, 5 + p * 9 + 6, none⟩ = some (.bool (f p 5)) ∧ w.cell? ⟨g, 5 + p * 9 + 7, none⟩ = some (.bool (f p 6)) ∧ w.cell? ⟨g, 5 + p * 9 + 8, none⟩ = some (.bool (f p 7)) := by
  rcases (show p = 0 ∨ p = 1 ∨ p = 2 ∨ p = 3 by omega) with rfl | rfl | rfl | rfl <;> exact ⟨h.cell _, h.cell _, h.cell _, h.cell _, h.cell _, h.cell _, h.cell _, h.cell _, h.cell _⟩
theorem own_rows_ne {w : World} {b1 b2 s1 s2 n1 n2 c2 : Nat} {e1 e2 : TypeId} {v1 : Value} {A2 : Option Addr} {xs ys : List Value} (h1 : w.ownsRow b1 e1 s1 v1 n1 xs) (h2 : w.ownsRow b2 e2 s2 (.slice A2 n2 c2) n2 ys) (hne : e1 ≠ e2) : v1.ownBlock = none ∨ v1.ownBlock ≠ (Value.slice A2 n2 c2).ownBlock := by
  rcases A2 with _ | ⟨b, off, x⟩
  · rcases h : v1.ownBlock with _ | k
    · exact .inl rfl
    · exact .inr (by simp [Value.ownBlock])
  · rcases h2.2 with ⟨h, _⟩ | ⟨g, cap, cur, h, _, hg, _⟩
    · cases h
    · injection h with h _ _
      injection h with h
      injection h with hb _ _
      subst hb
      exact .inr (own_blk_ne h1 hg hne)
theorem own_drewQ {w : World} {base size n : Nat} {e : TypeId} {u : Value} {xs : List Value} (h : w.ownsRow base e size u n xs) : w.drew.ownsRow base e size u n xs := h
def putWin (w : World) (g o : Nat) (v : Int) (q : Nat → Bool) : World :=
  ((((((((w.setCell ⟨g, o, none⟩ (.int .i64 v)).setCell ⟨g, o + 1, none⟩ (.bool (q 0))).setCell ⟨g, o + 2, none⟩ (.bool (q 1))).setCell ⟨g, o + 3, none⟩ (.bool (q 2))).setCell ⟨g, o + 4, none⟩ (.bool (q 3))).setCell ⟨g, o + 5, none⟩ (.bool (q 4))).setCell ⟨g, o + 6, none⟩ (.bool (q 5))).setCell ⟨g, o + 7, none⟩ (.bool (q 6))).setCell ⟨g, o + 8, none⟩ (.bool (q 7))
theorem qwin_set (ep nx gv : Int) (vr vl : Value) (t : Nat → Int) (f : Nat → Nat → Bool) (p : Nat) (hp : p < 4) (v : Int) (q : Nat → Bool) : ((((((((((qCells ep nx gv vr vl t f).setIfInBounds (5 + p * 9) (.int .i64 v)).setIfInBounds (5 + p * 9 + 1) (.bool (q 0))).setIfInBounds (5 + p * 9 + 2) (.bool (q 1))).setIfInBounds (5 + p * 9 + 3) (.bool (q 2))).setIfInBounds (5 + p * 9 + 4) (.bool (q 3))).setIfInBounds (5 + p * 9 + 5) (.bool (q 4))).setIfInBounds (5 + p * 9 + 6) (.bool (q 5))).setIfInBounds (5 + p * 9 + 7) (.bool (q 6))).setIfInBounds (5 + p * 9 + 8) (.bool (q 7))) = qCells ep nx gv vr vl (setF t p v) (setF f p q) := by
  rcases (show p = 0 ∨ p = 1 ∨ p = 2 ∨ p = 3 by omega) with rfl | rfl | rfl | rfl <;> kernel_rfl
theorem putWin_blk {w : World} {g p : Nat} {ty : TypeId} {ep nx gv : Int} {vr vl : Value} {t : Nat → Int} {f : Nat → Nat → Bool} (h : Blk w g ty (qCells ep nx gv vr vl t f)) (hp : p < 4) (v : Int) (q : Nat → Bool) :
    Blk (putWin w g (5 + p * 9) v q) g ty (qCells ep nx gv vr vl (setF t p v) (setF f p q)) := by
  have h9 := ((((((((h.set_ (5 + p * 9) (.int .i64 v)).set_ (5 + p * 9 + 1) (.bool (q 0))).set_ (5 + p * 9 + 2) (.bool (q 1))).set_ (5 + p * 9 + 3) (.bool (q 2))).set_ (5 + p * 9 + 4) (.bool (q 3))).set_ (5 + p * 9 + 5) (.bool (q 4))).set_ (5 + p * 9 + 6) (.bool (q 5))).set_ (5 + p * 9 + 7) (.bool (q 6))).set_ (5 + p * 9 + 8) (.bool (q 7))
  rw [qwin_set ep nx gv vr vl t f p hp v q] at h9
  exact h9
theorem putWin_far {w : World} {g g' o : Nat} {ty : TypeId} {cs : Array Value} (h : Blk w g' ty cs) (hg : g' ≠ g) (v : Int) (q : Nat → Bool) : Blk (putWin w g o v q) g' ty cs :=
  ((((((((h.far (p := ⟨g, o, none⟩) hg _).far (p := ⟨g, o + 1, none⟩) hg _).far (p := ⟨g, o + 2, none⟩) hg _).far (p := ⟨g, o + 3, none⟩) hg _).far (p := ⟨g, o + 4, none⟩) hg _).far (p := ⟨g, o + 5, none⟩) hg _).far (p := ⟨g, o + 6, none⟩) hg _).far (p := ⟨g, o + 7, none⟩) hg _).far (p := ⟨g, o + 8, none⟩) hg _
theorem putWin_own {w : World} {base size n g o : Nat} {e : TypeId} {u : Value} {xs : List Value} (h : w.ownsRow base e size u n xs) (hg : u.ownBlock ≠ some g) (v : Int) (q : Nat → Bool) : (putWin w g o v q).ownsRow base e size u n xs :=
  ownsRow_setCell_other (ownsRow_setCell_other (ownsRow_setCell_other (ownsRow_setCell_other (ownsRow_setCell_other (ownsRow_setCell_other (ownsRow_setCell_other (ownsRow_setCell_other (ownsRow_setCell_other h (a := ⟨g, o, none⟩) hg _) (a := ⟨g, o + 1, none⟩) hg _) (a := ⟨g, o + 2, none⟩) hg _) (a := ⟨g, o + 3, none⟩) hg _) (a := ⟨g, o + 4, none⟩) hg _) (a := ⟨g, o + 5, none⟩) hg _) (a := ⟨g, o + 6, none⟩) hg _) (a := ⟨g, o + 7, none⟩) hg _) (a := ⟨g, o + 8, none⟩) hg _
theorem putWin_below {w a : World} {B g o : Nat} (h : Below B a w) (hg : B ≤ g) (v : Int) (q : Nat → Bool) : Below B a (putWin w g o v q) :=
  ((((((((h.setCell (p := ⟨g, o, none⟩) hg _).setCell (p := ⟨g, o + 1, none⟩) hg _).setCell (p := ⟨g, o + 2, none⟩) hg _).setCell (p := ⟨g, o + 3, none⟩) hg _).setCell (p := ⟨g, o + 4, none⟩) hg _).setCell (p := ⟨g, o + 5, none⟩) hg _).setCell (p := ⟨g, o + 6, none⟩) hg _).setCell (p := ⟨g, o + 7, none⟩) hg _).setCell (p := ⟨g, o + 8, none⟩) hg _
theorem msgCells_snoc (rd : List (Int × Int)) (a b : Int) : msgCells (rd ++ [(a, b)]) = msgCells rd ++ [.int .i64 a, .int .i64 b] := by
  simp [msgCells, rowCells]

set_option maxRecDepth 100000 in
theorem win_put {w : World} {gw : Nat} {ty : TypeId} (h : Blk w gw ty #[.int .i64 0, .bool false, .bool false, .bool false, .bool false, .bool false, .bool false, .bool false, .bool false]) (T : Int) (q : Nat → Bool) : Blk (((((((((w.setCell ⟨gw, 0, none⟩ (.int .i64 T)).setCell ⟨gw, 1, none⟩ (.bool (q 0))).setCell ⟨gw, 2, none⟩ (.bool (q 1))).setCell ⟨gw, 3, none⟩ (.bool (q 2))).setCell ⟨gw, 4, none⟩ (.bool (q 3))).setCell ⟨gw, 5, none⟩ (.bool (q 4))).setCell ⟨gw, 6, none⟩ (.bool (q 5))).setCell ⟨gw, 7, none⟩ (.bool (q 6))).setCell ⟨gw, 8, none⟩ (.bool (q 7))) gw ty (winCells T q) := by
  have h9 := (((((((((h.set_ 0 (.int .i64 T)).set_ 1 (.bool (q 0))).set_ 2 (.bool (q 1))).set_ 3 (.bool (q 2))).set_ 4 (.bool (q 3))).set_ 5 (.bool (q 4))).set_ 6 (.bool (q 5))).set_ 7 (.bool (q 6))).set_ 8 (.bool (q 7)))
  have e : (((((((((((#[.int .i64 0, .bool false, .bool false, .bool false, .bool false, .bool false, .bool false, .bool false, .bool false] : Array Value).setIfInBounds 0 (.int .i64 T)).setIfInBounds 1 (.bool (q 0))).setIfInBounds 2 (.bool (q 1))).setIfInBounds 3 (.bool (q 2))).setIfInBounds 4 (.bool (q 3))).setIfInBounds 5 (.bool (q 4))).setIfInBounds 6 (.bool (q 5))).setIfInBounds 7 (.bool (q 6))).setIfInBounds 8 (.bool (q 7)))) = winCells T q := by kernel_rfl
  rw [e] at h9
  exact h9
theorem win_put_below {w a : World} {B gw : Nat} (h : Below B a w) (hg : B ≤ gw) (T : Int) (q : Nat → Bool) : Below B a (((((((((w.setCell ⟨gw, 0, none⟩ (.int .i64 T)).setCell ⟨gw, 1, none⟩ (.bool (q 0))).setCell ⟨gw, 2, none⟩ (.bool (q 1))).setCell ⟨gw, 3, none⟩ (.bool (q 2))).setCell ⟨gw, 4, none⟩ (.bool (q 3))).setCell ⟨gw, 5, none⟩ (.bool (q 4))).setCell ⟨gw, 6, none⟩ (.bool (q 5))).setCell ⟨gw, 7, none⟩ (.bool (q 6))).setCell ⟨gw, 8, none⟩ (.bool (q 7))) :=
  (((((((((h.setCell (p := ⟨gw, 0, none⟩) hg _).setCell (p := ⟨gw, 1, none⟩) hg _).setCell (p := ⟨gw, 2, none⟩) hg _).setCell (p := ⟨gw, 3, none⟩) hg _).setCell (p := ⟨gw, 4, none⟩) hg _).setCell (p := ⟨gw, 5, none⟩) hg _).setCell (p := ⟨gw, 6, none⟩) hg _).setCell (p := ⟨gw, 7, none⟩) hg _).setCell (p := ⟨gw, 8, none⟩) hg _)

set_option maxRecDepth 100000 in
set_option maxHeartbeats 3000000 in
theorem publish_ok (ep nx gv : Int) (rd : List (Int × Int)) (ls : List (Int × Int × Int)) (t : Nat → Int) (f : Nat → Nat → Bool) (S : Int → Bool) (g n m p : Nat) (v1 v2 : Value) (id body T : Int) (w : World)
    (E : Blk w g 88 (qCells ep nx gv v1 v2 t f)) (hn : rd.length = n) (hm : ls.length = m) (hp : p < 4)
    (o1 : w.ownsRow (g + 1) 91 2 v1 n (msgCells rd)) (o2 : w.ownsRow (g + 1) 94 4 v2 m (lsCells ep ls)) (hlen : n + m < 500) (hx0 : 0 ≤ nx) (hx1 : nx < 1073741824)
    (hf : f p = shows (t p) S) (hW : WOk (t p) S) (h1 : 0 ≤ id) (h2 : id ≤ 1073741824) (hl : t p - 8 ≤ id) (hs : S id = false) (hT : max (t p) (id + 1) = T) :
    Calls Try.prog 41 #[.pointer (some ⟨g, 0, none⟩), .agg #[.int .i64 1, .int .i64 p, .int .i64 id, .int .i64 body, .int .i64 0, .int .i64 0]] w
      (ActPost g w (ansV 0 0 0 0) true ep (nx + 1) gv (rd ++ [(nx, body)]) ls (setF t p T) (setF f p (shows T fun x => S x || x == id))) := by
  obtain ⟨i0, hi0, hz0, hz1, hz2⟩ := info_parts msg_info
  obtain ⟨A1, c1, rfl, hc1, _⟩ := own_shape o1
  obtain ⟨A2, c2, rfl, hc2, _⟩ := own_shape o2
  have CT' := fun W => wtake_fresh (t p) S id W hW h1 h2 hl hs T hT
  rw [← hf] at CT'
  generalize (shows T fun x => S x || x == id) = q at *
  unfold winCells at CT'
  have CT := Lib.hid CT'
  clear CT' hf hW hs hT hl
  have hgl := E.lt
  have E0 := (E.alloc (.cells #[.int .i64 1, .int .i64 p, .int .i64 id, .int .i64 body, .int .i64 0, .int .i64 0] 37)).alloc (.cells #[.int .i64 0, .int .i64 0, .int .i64 0, .int .i64 0] 50)
  have o1' := (o1.alloc (.cells #[.int .i64 1, .int .i64 p, .int .i64 id, .int .i64 body, .int .i64 0, .int .i64 0] 37)).alloc (.cells #[.int .i64 0, .int .i64 0, .int .i64 0, .int .i64 0] 50)
  have o2' := (o2.alloc (.cells #[.int .i64 1, .int .i64 p, .int .i64 id, .int .i64 body, .int .i64 0, .int .i64 0] 37)).alloc (.cells #[.int .i64 0, .int .i64 0, .int .i64 0, .int .i64 0] 50)
  have D0 := (Blk.new w 37 #[.int .i64 1, .int .i64 p, .int .i64 id, .int .i64 body, .int .i64 0, .int .i64 0]).alloc (.cells #[.int .i64 0, .int .i64 0, .int .i64 0, .int .i64 0] 50)
  have F0 := Blk.new' (w := w.alloc (.cells #[.int .i64 1, .int .i64 p, .int .i64 id, .int .i64 body, .int .i64 0, .int .i64 0] 37)) (g := w.heap.size + 1) (t := 50) (cs := #[.int .i64 0, .int .i64 0, .int .i64 0, .int .i64 0]) (by simp)
  have bel0 := ((Below.refl g w).alloc (Nat.le_of_lt hgl) (.cells #[.int .i64 1, .int .i64 p, .int .i64 id, .int .i64 body, .int .i64 0, .int .i64 0] 37)).alloc (by simp; omega) (.cells #[.int .i64 0, .int .i64 0, .int .i64 0, .int .i64 0] 50)
  have HP := Lib.hid (show ∀ w', DeskIs w' g ep (nx + 1) gv (rd ++ [(nx, body)]) ls (setF t p T) (setF f p q) → Below g w w' → ActPost g w (ansV 0 0 0 0) true ep (nx + 1) gv (rd ++ [(nx, body)]) ls (setF t p T) (setF f p q) (.returned (.tuple #[ansV 0 0 0 0, .bool true])) w' from fun w' a b => ⟨rfl, a, b⟩)
  generalize ActPost g w (ansV 0 0 0 0) true ep (nx + 1) gv (rd ++ [(nx, body)]) ls (setF t p T) (setF f p q) = POST at *
  clear o1 o2 E
  go_enter Try.func41, Try.ntmps41
  go_upto_region 1 with fail
  obtain ⟨ga, hga⟩ : ∃ ga, ga = w.heap.size + 1 := ⟨_, rfl⟩
  obtain ⟨ge, hge⟩ : ∃ ge, ge = w.heap.size := ⟨_, rfl⟩
  have hgga : g < ga := by omega
  have hgge : g < ge := by omega
  have hgea : ge < ga := by omega
  rw [← hga] at F0 ⊢
  rw [← hge] at D0 ⊢
  generalize (w.alloc (.cells #[.int .i64 1, .int .i64 p, .int .i64 id, .int .i64 body, .int .i64 0, .int .i64 0] 37)).alloc (.cells #[.int .i64 0, .int .i64 0, .int .i64 0, .int .i64 0] 50) = w0 at *
  clear hga hge
  obtain ⟨u0, u1, u2, u3, u4, u5, u6, u7, u8⟩ := qWin E0 hp
  have hgz := E0.lt
  have hez := D0.lt
  have d1 := D0.cell 1
  have d2 := D0.cell 2
  have hpI : (p : Int) < 4 := by omega
  have n1 : ¬ g = w0.heap.size := by omega
  have n2 : ¬ w0.heap.size = g := by omega
  have n3 : ¬ ge = w0.heap.size := by omega
  have n4 : ¬ w0.heap.size = ge := by omega
  go_cut [6, 7, 8] (fun s6 s7 s8 wx => ∃ gw, s6 = .pointer (some ⟨gw, 0, none⟩) ∧ s7 = .bool true ∧ s8 = .int .i64 0 ∧ Blk wx gw 43 (winCells T q) ∧ Below w0.heap.size w0 wx ∧ w0.heap.size ≤ gw)
  case first =>
    go_region_held3 (fun W => W.cell? ⟨g, 5 + p * 9, none⟩ = some (.int .i64 (t p)) ∧ W.cell? ⟨g, 5 + p * 9 + 1, none⟩ = some (.bool (f p 0)) ∧ W.cell? ⟨g, 5 + p * 9 + 2, none⟩ = some (.bool (f p 1)) ∧ W.cell? ⟨g, 5 + p * 9 + 3, none⟩ = some (.bool (f p 2)) ∧ W.cell? ⟨g, 5 + p * 9 + 4, none⟩ = some (.bool (f p 3)) ∧ W.cell? ⟨g, 5 + p * 9 + 5, none⟩ = some (.bool (f p 4)) ∧ W.cell? ⟨g, 5 + p * 9 + 6, none⟩ = some (.bool (f p 5)) ∧ W.cell? ⟨g, 5 + p * 9 + 7, none⟩ = some (.bool (f p 6)) ∧ W.cell? ⟨g, 5 + p * 9 + 8, none⟩ = some (.bool (f p 7)) ∧ W.cell? ⟨ge, 1, none⟩ = some (.int .i64 p) ∧ W.cell? ⟨ge, 2, none⟩ = some (.int .i64 id)) (go_keep)
      (first
        | (go_at_call 53; refine (CT.out _).mono ?_; rintro e w3 ⟨rfl, b3⟩; have eN : Blk w3 w0.heap.size 43 #[.int .i64 0, .bool false, .bool false, .bool false, .bool false, .bool false, .bool false, .bool false, .bool false] := (by first | exact ((Blk.new w0 _ _).drew).below b3 (by simp) | exact (Blk.new w0.drew _ _).below b3 (by simp)); have hbW : Below w0.heap.size w0 w3 := (by first | exact (Below.refl _ _).drew.trans (b3.mono (by simp)) | exact ((Below.refl _ _).alloc (Nat.le_refl _) _).drew.trans (b3.mono (by simp)) | exact ((Below.refl _ _).drew.alloc (by simp) _).trans (b3.mono (by simp))); have m1 : ¬ g = w3.heap.size := (by have := hbW.size; omega); have m2 : ¬ w3.heap.size = g := (by have := hbW.size; omega); have m3 : ¬ ge = w3.heap.size := (by have := hbW.size; omega); have m4 : ¬ w3.heap.size = ge := (by have := hbW.size; omega); have fN := eN.frozen; have zN := eN.lt; have c0 := eN.cell 0; have c1 := eN.cell 1; have c2 := eN.cell 2; have c3 := eN.cell 3; have c4 := eN.cell 4; have c5 := eN.cell 5; have c6 := eN.cell 6; have c7 := eN.cell 7; have c8 := eN.cell 8; have s0 := (hbW.cell (p := ⟨g, 5 + p * 9, none⟩) hgz).trans u0; have s1 := (hbW.cell (p := ⟨g, 5 + p * 9 + 1, none⟩) hgz).trans u1; have s2 := (hbW.cell (p := ⟨g, 5 + p * 9 + 2, none⟩) hgz).trans u2; have s3 := (hbW.cell (p := ⟨g, 5 + p * 9 + 3, none⟩) hgz).trans u3; have s4 := (hbW.cell (p := ⟨g, 5 + p * 9 + 4, none⟩) hgz).trans u4; have s5 := (hbW.cell (p := ⟨g, 5 + p * 9 + 5, none⟩) hgz).trans u5; have s6 := (hbW.cell (p := ⟨g, 5 + p * 9 + 6, none⟩) hgz).trans u6; have s7 := (hbW.cell (p := ⟨g, 5 + p * 9 + 7, none⟩) hgz).trans u7; have s8 := (hbW.cell (p := ⟨g, 5 + p * 9 + 8, none⟩) hgz).trans u8; have s9 := (hbW.cell (p := ⟨ge, 1, none⟩) hez).trans d1; have s10 := (hbW.cell (p := ⟨ge, 2, none⟩) hez).trans d2; clear b3)
        | (go_at_call 53; refine (CT.out _).mono ?_; rintro e w3 ⟨rfl, b3⟩; have hbW : Below w0.heap.size w0 w3 := (by first | exact (Below.refl _ _).drew.trans (b3.mono (by simp)) | exact ((Below.refl _ _).alloc (Nat.le_refl _) _).drew.trans (b3.mono (by simp)) | exact ((Below.refl _ _).drew.alloc (by simp) _).trans (b3.mono (by simp))); have m1 : ¬ g = w3.heap.size := (by have := hbW.size; omega); have m2 : ¬ w3.heap.size = g := (by have := hbW.size; omega); have m3 : ¬ ge = w3.heap.size := (by have := hbW.size; omega); have m4 : ¬ w3.heap.size = ge := (by have := hbW.size; omega); have s0 := (hbW.cell (p := ⟨g, 5 + p * 9, none⟩) hgz).trans u0; have s1 := (hbW.cell (p := ⟨g, 5 + p * 9 + 1, none⟩) hgz).trans u1; have s2 := (hbW.cell (p := ⟨g, 5 + p * 9 + 2, none⟩) hgz).trans u2; have s3 := (hbW.cell (p := ⟨g, 5 + p * 9 + 3, none⟩) hgz).trans u3; have s4 := (hbW.cell (p := ⟨g, 5 + p * 9 + 4, none⟩) hgz).trans u4; have s5 := (hbW.cell (p := ⟨g, 5 + p * 9 + 5, none⟩) hgz).trans u5; have s6 := (hbW.cell (p := ⟨g, 5 + p * 9 + 6, none⟩) hgz).trans u6; have s7 := (hbW.cell (p := ⟨g, 5 + p * 9 + 7, none⟩) hgz).trans u7; have s8 := (hbW.cell (p := ⟨g, 5 + p * 9 + 8, none⟩) hgz).trans u8; have s9 := (hbW.cell (p := ⟨ge, 1, none⟩) hez).trans d1; have s10 := (hbW.cell (p := ⟨ge, 2, none⟩) hez).trans d2; clear b3))
    all_goals
      go_wp2_with fail
      go_meet
      first
        | with_reducible exact ⟨_, rfl, rfl, rfl, win_put eN T q, win_put_below hbW (Nat.le_refl _) T q, Nat.le_refl _⟩
        | exact ⟨_, rfl, rfl, rfl, Blk.new w3 _ _, hbW.alloc hbW.size _, hbW.size⟩
  case rest =>
    obtain ⟨gw, rfl, rfl, rfl, W1, b1, hgw⟩ := hcut
    have E1 := E0.below b1 E0.lt
    have D1 := D0.below b1 D0.lt
    have F1 := F0.below b1 F0.lt
    have o11 := own_below o1' b1 (Nat.le_refl _)
    have o21 := own_below o2' b1 (Nat.le_refl _)
    have bel1 := bel0.trans (b1.mono (Nat.le_of_lt hgz))
    clear u0 u1 u2 u3 u4 u5 u6 u7 u8 d1 d2 n1 n2 n3 n4 E0 D0 F0 o1' o2' bel0 b1 CT
    obtain ⟨x0, x1, x2, x3, x4⟩ := qBlk E1
    have z1 := E1.lt
    have iw : IntKind.i64.wrap ((n : Int) + (m : Int)) = (n : Int) + (m : Int) := IntWalk.i64_in _ (by omega)
    have g1 : ((n : Int) + (m : Int) == 500) = false := by rw [beq_eq_false_iff_ne]; omega
    have g2 : decide ((n : Int) + (m : Int) = 500) = false := by rw [decide_eq_false_iff_not]; omega
    have g3 : (n + m == 500) = false := by rw [beq_eq_false_iff_ne]; omega
    have g4 : (nx == 1073741824) = false := by rw [beq_eq_false_iff_ne]; omega
    have ngw : g ≠ gw := by omega
    have ngw' : ¬ gw = g := by omega
    go_wp2_with fail
    go_quiet (fail)
    have E2 : Blk (wc.drewN nq) g 88 _ := E1.drewN nq
    have D2 : Blk (wc.drewN nq) ge 37 _ := D1.drewN nq
    have F2 : Blk (wc.drewN nq) ga 50 _ := F1.drewN nq
    have W2 : Blk (wc.drewN nq) gw 43 _ := W1.drewN nq
    have o12 : (wc.drewN nq).ownsRow (g + 1) 91 2 _ n _ := o11
    have o22 : (wc.drewN nq).ownsRow (g + 1) 94 4 _ m _ := o21
    have bel2 := below_drewN bel1 nq
    generalize wc.drewN nq = w2 at *
    clear x0 x1 x2 x3 x4 z1 g1 g2 g3 E1 D1 F1 W1 o11 o21 bel1
    obtain ⟨u0, u1, u2, u3, u4, u5, u6, u7, u8⟩ := qWin E2 hp
    obtain ⟨y0, y1, y2, y3, y4, y5, y6, y7, y8⟩ := winBlk W2
    have d1 := D2.cell 1
    have hgf := E2.frozen
    have hgz2 := E2.lt
    go_wp2_with fail
    go_region
    have ma := own_blk_ne o12 E2 (by decide)
    have mb := own_blk_ne o22 E2 (by decide)
    have nge : ¬ ge = g := by omega
    have nga : ¬ ga = g := by omega
    have nga' : ¬ g = ga := by omega
    have hput : putWin w2 g (5 + p * 9) T q = (((((((((w2.setCell ⟨g, 5 + p * 9, none⟩ (.int .i64 T)).setCell ⟨g, 5 + p * 9 + 1, none⟩ (.bool (q 0))).setCell ⟨g, 5 + p * 9 + 2, none⟩ (.bool (q 1))).setCell ⟨g, 5 + p * 9 + 3, none⟩ (.bool (q 2))).setCell ⟨g, 5 + p * 9 + 4, none⟩ (.bool (q 3))).setCell ⟨g, 5 + p * 9 + 5, none⟩ (.bool (q 4))).setCell ⟨g, 5 + p * 9 + 6, none⟩ (.bool (q 5))).setCell ⟨g, 5 + p * 9 + 7, none⟩ (.bool (q 6))).setCell ⟨g, 5 + p * 9 + 8, none⟩ (.bool (q 7))) := rfl
    have E3 := (putWin_blk E2 hp T q).drew
    have D3 := (putWin_far (o := 5 + p * 9) D2 nge T q).drew
    have F3 := (putWin_far (o := 5 + p * 9) F2 nga T q).drew
    have o13 := own_drewQ (putWin_own (o := 5 + p * 9) o12 ma T q)
    have o23 := own_drewQ (putWin_own (o := 5 + p * 9) o22 mb T q)
    have bel3 := (putWin_below (o := 5 + p * 9) bel2 (Nat.le_refl _) T q).drew
    rw [hput] at E3 D3 F3 o13 o23 bel3
    clear hput
    generalize (((((((((w2.setCell ⟨g, 5 + p * 9, none⟩ (.int .i64 T)).setCell ⟨g, 5 + p * 9 + 1, none⟩ (.bool (q 0))).setCell ⟨g, 5 + p * 9 + 2, none⟩ (.bool (q 1))).setCell ⟨g, 5 + p * 9 + 3, none⟩ (.bool (q 2))).setCell ⟨g, 5 + p * 9 + 4, none⟩ (.bool (q 3))).setCell ⟨g, 5 + p * 9 + 5, none⟩ (.bool (q 4))).setCell ⟨g, 5 + p * 9 + 6, none⟩ (.bool (q 5))).setCell ⟨g, 5 + p * 9 + 7, none⟩ (.bool (q 6))).setCell ⟨g, 5 + p * 9 + 8, none⟩ (.bool (q 7))).drew = w3 at *
    clear u0 u1 u2 u3 u4 u5 u6 u7 u8 y0 y1 y2 y3 y4 y5 y6 y7 y8 d1 hgf hgz2 E2 D2 F2 W2 o12 o22 bel2 ma mb
    obtain ⟨x0, x1, x2, x3, x4⟩ := qBlk E3
    have hgf := E3.frozen
    have hgz3 := E3.lt
    have hez3 := D3.lt
    have d3 := D3.cell 3
    have OD : w3.drew.ownsRow (g + 1) 91 2 (.slice A1 n c1) n (msgCells rd) := o13
    have o7 := OD.alloc (.cells #[.int .i64 nx, .int .i64 body] 91)
    have rR := reads_oneQ w3.drew 91 #[.int .i64 nx, .int .i64 body] 2 rfl
    have E7 : Blk (w3.drew.alloc (.cells #[.int .i64 nx, .int .i64 body] 91)) g 88 _ := (E3.drew).alloc (.cells #[.int .i64 nx, .int .i64 body] 91)
    have F7 : Blk (w3.drew.alloc (.cells #[.int .i64 nx, .int .i64 body] 91)) ga 50 _ := (F3.drew).alloc (.cells #[.int .i64 nx, .int .i64 body] 91)
    have o27 : (w3.drew.alloc (.cells #[.int .i64 nx, .int .i64 body] 91)).ownsRow (g + 1) 94 4 (.slice A2 m c2) m (lsCells ep ls) := (show w3.drew.ownsRow (g + 1) 94 4 (.slice A2 m c2) m (lsCells ep ls) from o23).alloc (.cells #[.int .i64 nx, .int .i64 body] 91)
    have bel7 : Below g w (w3.drew.alloc (.cells #[.int .i64 nx, .int .i64 body] 91)) := bel3.drew.alloc (Nat.le_of_lt hgz3) (.cells #[.int .i64 nx, .int .i64 body] 91)
    have ne7 := own_blk_ne o7 E7 (by decide)
    have neF := own_blk_ne o7 F7 (by decide)
    have neL := own_rows_ne o27 o7 (by decide)
    have i9 : IntKind.i64.wrap (nx + 1) = nx + 1 := IntWalk.i64_in _ (by omega)
    go_upto_region 9 with fail
    go_cut [80] (fun _ wx => ∃ A8 c8, Blk wx g 88 (qCells ep nx gv (.slice A8 (n + 1) c8) (.slice A2 m c2) (setF t p T) (setF f p q)) ∧ n + 1 ≤ c8 ∧ Blk wx ga 50 #[.int .i64 0, .int .i64 0, .int .i64 0, .int .i64 0] ∧ wx.ownsRow (g + 1) 91 2 (.slice A8 (n + 1) c8) (n + 1) (msgCells (rd ++ [(nx, body)])) ∧ wx.ownsRow (g + 1) 94 4 (.slice A2 m c2) m (lsCells ep ls) ∧ Below g w wx)
    case first =>
      go_region_law (first
        | (refine step_append_any _ rfl (.tmp 70) (.tmp 79) _ rfl (g + 1) 91 i0 _ 2 16 Try.underlying39 hi0 hz0 hz1 hz2 rfl (by omega) (.slice A1 n c1) n (msgCells rd) rfl o7 _ _ 1 1 _ rfl rR (by intro u hu; simp at hu; rcases hu with h | h <;> subst h <;> rfl) (by simp only [maxLen]; omega) (by omega) (by simp; omega) ?_; intro v8 w8 o8 g8 at8; obtain ⟨A8, c8, rfl, hc8, _⟩ := own_shape o8; have E8 := E7.grown g8 (fun h => ne7 h.symm); have F8 := F7.grown g8 (fun h => neF h.symm); have o28 := o27.kept g8 neL; have bel8 := bel7.grown g8 (by simp; omega) (fun k hk => by have := own_blk_geQ o7 k hk; omega); have f8 := E8.frozen; have z8 := E8.lt; have q8 : w8.cell? ⟨g, 3, none⟩ = some (.slice A1 n c1) := (qBlk E8).2.2.2.1))
      all_goals
        go_wp2_with fail
        go_meet
        exact ⟨A8, c8, qset3 _ _ _ _ _ _ _ _ ▸ E8.set_ 3 (.slice A8 (n + 1) c8), hc8, F8.far (p := ⟨g, 3, none⟩) nga (.slice A8 (n + 1) c8), by rw [msgCells_snoc]; exact ownsRow_setCell_other (a := ⟨g, 3, none⟩) o8 (own_blk_ne o8 E8 (by decide)) (.slice A8 (n + 1) c8), ownsRow_setCell_other (a := ⟨g, 3, none⟩) o28 (own_blk_ne o28 E8 (by decide)) (.slice A8 (n + 1) c8), bel8.setCell (p := ⟨g, 3, none⟩) (Nat.le_refl _) (.slice A8 (n + 1) c8)⟩
    case rest =>
      obtain ⟨A8, c8, E9, hc8, F9, o9, o29, bel9⟩ := hcut
      clear x0 x1 x2 x3 x4 hgf hgz3 hez3 d3 E7 F7 E3 D3 F3 o27 o13 o23 OD o7 rR bel3 bel7 ne7 neF neL
      have m1 := own_blk_ne o9 E9 (by decide)
      have m2 := own_blk_ne o29 E9 (by decide)
      have m3 := own_blk_ne o9 F9 (by decide)
      have m4 := own_blk_ne o29 F9 (by decide)
      obtain ⟨x0, x1, x2, x3, x4⟩ := qBlk E9
      have hgf := E9.frozen
      have hgz9 := E9.lt
      have f0 := F9.cell 0
      have f1 := F9.cell 1
      have f2 := F9.cell 2
      have f3 := F9.cell 3
      have ff := F9.frozen
      have fz := F9.lt
      have E10 := E9.set_ 1 (.int .i64 (nx + 1))
      rw [qset1] at E10
      have EF := ((((E10.far (p := ⟨ga, 0, none⟩) nga' (.int .i64 0)).far (p := ⟨ga, 1, none⟩) nga' (.int .i64 0)).far (p := ⟨ga, 2, none⟩) nga' (.int .i64 0)).far (p := ⟨ga, 3, none⟩) nga' (.int .i64 0))
      have p1 := (ownsRow_setCell_other (a := ⟨ga, 3, none⟩) (ownsRow_setCell_other (a := ⟨ga, 2, none⟩) (ownsRow_setCell_other (a := ⟨ga, 1, none⟩) (ownsRow_setCell_other (a := ⟨ga, 0, none⟩) (ownsRow_setCell_other (a := ⟨g, 1, none⟩) o9 m1 (.int .i64 (nx + 1))) m3 (.int .i64 0)) m3 (.int .i64 0)) m3 (.int .i64 0)) m3 (.int .i64 0))
      have p2 := (ownsRow_setCell_other (a := ⟨ga, 3, none⟩) (ownsRow_setCell_other (a := ⟨ga, 2, none⟩) (ownsRow_setCell_other (a := ⟨ga, 1, none⟩) (ownsRow_setCell_other (a := ⟨ga, 0, none⟩) (ownsRow_setCell_other (a := ⟨g, 1, none⟩) o29 m2 (.int .i64 (nx + 1))) m4 (.int .i64 0)) m4 (.int .i64 0)) m4 (.int .i64 0)) m4 (.int .i64 0))
      have bF := (((((bel9.setCell (p := ⟨g, 1, none⟩) (Nat.le_refl _) (.int .i64 (nx + 1))).setCell (p := ⟨ga, 0, none⟩) (Nat.le_of_lt hgga) (.int .i64 0)).setCell (p := ⟨ga, 1, none⟩) (Nat.le_of_lt hgga) (.int .i64 0)).setCell (p := ⟨ga, 2, none⟩) (Nat.le_of_lt hgga) (.int .i64 0)).setCell (p := ⟨ga, 3, none⟩) (Nat.le_of_lt hgga) (.int .i64 0))
      have e1 : (rd ++ [(nx, body)]).length = n + 1 := by simp; omega
      have hfin := Lib.hid (HP.out _ ⟨A8, c8, A2, c2, by rw [e1, hm]; exact ⟨EF, hc8, hc2, Reads.of_own p1, Reads.of_own p2, own_fresh p1, own_fresh p2⟩⟩ bF)
      clear E10 EF p1 p2 bF e1 m1 m2 m3 m4 o9 o29 bel9 HP E9 F9
      go_wp2_with fail
      exact bodyPost_ret (v := .tuple #[.agg #[.int .i64 0, .int .i64 0, .int .i64 0, .int .i64 0], .bool true]) (by simp [results, Try.results41, go_sem, *]) rfl hfin.out

end Go.Proofs.Ytjgbkicnagcmdaa
