/- Queues: 'ack' of a lease that is there, of one that is not, of an elder epoch. -/
import Derived.Test.YtjgbkicnagcmdaaQAck
import Derived.BigQuiet
namespace Go.Proofs.Ytjgbkicnagcmdaa
open Go.RowKit

theorem lsCells_del (ep : Int) (ls : List (Int × Int × Int)) (k : Nat) (hk : k < ls.length) : lsCells ep (ls.take k ++ ls.drop (k + 1)) = (lsCells ep ls).take (k * 4) ++ (lsCells ep ls).drop ((k + 1) * 4) := by
  have e1 : ∀ a b : List (Int × Int × Int), lsCells ep (a ++ b) = lsCells ep a ++ lsCells ep b := fun a b => by unfold lsCells; rw [List.map_append]; simp [rowCells]
  have el : ∀ a : List (Int × Int × Int), (lsCells ep a).length = a.length * 4 := fun a => by
    have := rowCells_len 4 (a.map fun l => [ep, l.1, l.2.1, l.2.2]) (fun r hr => by obtain ⟨x, _, rfl⟩ := List.mem_map.1 hr; rfl)
    unfold lsCells
    simpa using this
  have h1 : (lsCells ep ls).take (k * 4) = lsCells ep (ls.take k) := by
    have h2 : (lsCells ep (ls.take k)).length = k * 4 := by rw [el, List.length_take]; congr 1; omega
    conv => lhs; rw [← List.take_append_drop k ls, e1, ← h2]
    rw [List.take_left]
  have h3 : (lsCells ep ls).drop ((k + 1) * 4) = lsCells ep (ls.drop (k + 1)) := by
    have h2 : (lsCells ep (ls.take (k + 1))).length = (k + 1) * 4 := by rw [el, List.length_take]; congr 1; omega
    conv => lhs; rw [← List.take_append_drop (k + 1) ls, e1, ← h2]
    rw [List.drop_left]
  rw [e1, h1, h3]
theorem rowCells_oneQ (rs : List (List Int)) : ∀ u ∈ rowCells rs, u.oneCell' = true := by
  intro u hu
  simp only [rowCells, List.mem_flatMap, List.mem_map] at hu
  obtain ⟨r, _, z, _, rfl⟩ := hu
  rfl

set_option maxRecDepth 100000 in
set_option maxHeartbeats 4000000 in
theorem ack_ok (ep nx gv : Int) (rd : List (Int × Int)) (ls : List (Int × Int × Int)) (t : Nat → Int) (f : Nat → Nat → Bool) (g n m k : Nat) (v1 v2 : Value) (e0 e1 e2 e3 id : Int) (w : World)
    (E : Blk w g 88 (qCells ep nx gv v1 v2 t f)) (hn : rd.length = n) (hm : ls.length = m)
    (o1 : w.ownsRow (g + 1) 91 2 v1 n (msgCells rd)) (o2 : w.ownsRow (g + 1) 94 4 v2 m (lsCells ep ls)) (hlen : n + m ≤ 500) (hk : k < m) (hid : (ls.getD k (0, 0, 0)).1 = id) (hno : ∀ t, t < k → (ls.getD t (0, 0, 0)).1 ≠ id) :
    Calls Try.prog 43 #[.pointer (some ⟨g, 0, none⟩), .agg #[.int .i64 e0, .int .i64 e1, .int .i64 e2, .int .i64 e3, .int .i64 ep, .int .i64 id]] w (ActPost g w (ansV 0 0 0 0) true ep nx gv rd (ls.take k ++ ls.drop (k + 1)) t f) := by
  obtain ⟨A1, c1, rfl, hc1, _⟩ := own_shape o1
  obtain ⟨gr, c2, rfl, hc2, hc2m, hgr, hgrl⟩ := own_head o2 (by omega)
  have hgl := E.lt
  have E0 := (E.alloc (.cells #[.int .i64 e0, .int .i64 e1, .int .i64 e2, .int .i64 e3, .int .i64 ep, .int .i64 id] 37)).alloc (.cells #[.int .i64 0, .int .i64 0, .int .i64 0, .int .i64 0] 50)
  have o1' := (o1.alloc (.cells #[.int .i64 e0, .int .i64 e1, .int .i64 e2, .int .i64 e3, .int .i64 ep, .int .i64 id] 37)).alloc (.cells #[.int .i64 0, .int .i64 0, .int .i64 0, .int .i64 0] 50)
  have o2' := (o2.alloc (.cells #[.int .i64 e0, .int .i64 e1, .int .i64 e2, .int .i64 e3, .int .i64 ep, .int .i64 id] 37)).alloc (.cells #[.int .i64 0, .int .i64 0, .int .i64 0, .int .i64 0] 50)
  have D0 := (Blk.new w 37 #[.int .i64 e0, .int .i64 e1, .int .i64 e2, .int .i64 e3, .int .i64 ep, .int .i64 id]).alloc (.cells #[.int .i64 0, .int .i64 0, .int .i64 0, .int .i64 0] 50)
  have F0 := Blk.new' (w := w.alloc (.cells #[.int .i64 e0, .int .i64 e1, .int .i64 e2, .int .i64 e3, .int .i64 ep, .int .i64 id] 37)) (g := w.heap.size + 1) (t := 50) (cs := #[.int .i64 0, .int .i64 0, .int .i64 0, .int .i64 0]) (by simp)
  have bel0 := ((Below.refl g w).alloc (Nat.le_of_lt hgl) (.cells #[.int .i64 e0, .int .i64 e1, .int .i64 e2, .int .i64 e3, .int .i64 ep, .int .i64 id] 37)).alloc (by simp; omega) (.cells #[.int .i64 0, .int .i64 0, .int .i64 0, .int .i64 0] 50)
  have HP := Lib.hid (show ∀ w', DeskIs w' g ep nx gv rd (ls.take k ++ ls.drop (k + 1)) t f → Below g w w' → ActPost g w (ansV 0 0 0 0) true ep nx gv rd (ls.take k ++ ls.drop (k + 1)) t f (.returned (.tuple #[ansV 0 0 0 0, .bool true])) w' from fun w' a b => ⟨rfl, a, b⟩)
  generalize ActPost g w (ansV 0 0 0 0) true ep nx gv rd (ls.take k ++ ls.drop (k + 1)) t f = POST at *
  clear o1 o2 E
  go_enter Try.func43, Try.ntmps43
  go_upto_region 1 with fail
  obtain ⟨ga, hga⟩ : ∃ ga, ga = w.heap.size + 1 := ⟨_, rfl⟩
  obtain ⟨ge, hge⟩ : ∃ ge, ge = w.heap.size := ⟨_, rfl⟩
  have hgga : g < ga := by omega
  have hgge : g < ge := by omega
  have hgea : ge < ga := by omega
  have hgrge : gr < ge := by omega
  rw [← hga] at F0 ⊢
  rw [← hge] at D0 ⊢
  generalize (w.alloc (.cells #[.int .i64 e0, .int .i64 e1, .int .i64 e2, .int .i64 e3, .int .i64 ep, .int .i64 id] 37)).alloc (.cells #[.int .i64 0, .int .i64 0, .int .i64 0, .int .i64 0] 50) = w0 at *
  clear hga hge hgrl
  obtain ⟨x0, x1, x2, x3, x4⟩ := qBlk E0
  have hgz := E0.lt
  have d4 := D0.cell 4
  have d5 := D0.cell 5
  have hdz := D0.lt
  go_quiet (fail)
  have E1 : Blk (w0.drewN nq) g 88 _ := E0.drewN nq
  have D1 : Blk (w0.drewN nq) ge 37 _ := D0.drewN nq
  have F1 : Blk (w0.drewN nq) ga 50 _ := F0.drewN nq
  have o11 : (w0.drewN nq).ownsRow (g + 1) 91 2 _ n _ := o1'
  have o21 : (w0.drewN nq).ownsRow (g + 1) 94 4 _ m _ := o2'
  have bel1 := below_drewN bel0 nq
  generalize w0.drewN nq = w1 at *
  clear x0 x1 x2 x3 x4 hgz d4 d5 hdz E0 D0 F0 o1' o2' bel0
  obtain ⟨x0, x1, x2, x3, x4⟩ := qBlk E1
  go_wp2_with fail
  refine (index_ls ep (some ⟨gr, 0, none⟩) m c2 w1.heap.size ls id k ge w1 hm (by omega) (Reads.of_own o21) (Nat.le_refl _) (D1.cell 4) (D1.cell 5) (.inl ⟨k, by omega, rfl, hid, hno⟩)).mono ?_
  rintro e w2 ⟨rfl, b2⟩
  have E2 := E1.below b2 E1.lt
  have F2 := F1.below b2 F1.lt
  have o12 := own_below o11 b2 (Nat.le_refl _)
  have o22 := own_below o21 b2 (Nat.le_refl _)
  have bel2 := bel1.trans (b2.mono (Nat.le_of_lt E1.lt))
  clear x0 x1 x2 x3 x4 E1 D1 F1 o11 o21 bel1 b2
  obtain ⟨x0, x1, x2, x3, x4⟩ := qBlk E2
  have hk0 : ¬ (k : Int) < 0 := by omega
  have i1 : IntKind.i64.wrap ((k : Int) + 1) = (k : Int) + 1 := IntWalk.i64_in _ (by omega)
  go_wp2_with fail
  refine (delete_ls (g + 1) gr c2 m k (lsCells ep ls) w2 o22 (rowCells_oneQ _) hk (by omega)).mono ?_
  rintro e w3 ⟨rfl, o23, b3, g3⟩
  rw [← lsCells_del ep ls k (by omega)] at o23
  have n1 := own_blk_ne o22 E2 (by decide)
  have n2 := own_blk_ne o22 F2 (by decide)
  have E3 := E2.grown g3 (fun h => n1 h.symm)
  have F3 := F2.grown g3 (fun h => n2 h.symm)
  obtain ⟨cur, K22, _, _, _⟩ := own_row_blk o22
  have o13 := o12.kept g3 (.inr (own_blk_ne o12 K22 (by decide)))
  clear K22
  have bel3 := bel2.grown g3 (Nat.le_of_lt E2.lt) (fun j hj => by cases hj; omega)
  clear x0 x1 x2 x3 x4 E2 F2 o12 o22 bel2 b3 g3 n1 n2
  obtain ⟨x0, x1, x2, x3, x4⟩ := qBlk E3
  have hgf := E3.frozen
  have hgz := E3.lt
  have f0 := F3.cell 0
  have f1 := F3.cell 1
  have f2 := F3.cell 2
  have f3 := F3.cell 3
  have ff := F3.frozen
  have fz := F3.lt
  have nga : ¬ ga = g := by omega
  have nga' : ¬ g = ga := by omega
  have m1 := own_blk_ne o13 E3 (by decide)
  have m2 := own_blk_ne o13 F3 (by decide)
  have m3 := own_blk_ne o23 E3 (by decide)
  have m4 := own_blk_ne o23 F3 (by decide)
  have E4 := E3.set_ 4 (.slice (some ⟨gr, 0, none⟩) (m - 1) c2)
  rw [qset4] at E4
  have EF := ((((E4.far (p := ⟨ga, 0, none⟩) nga' (.int .i64 0)).far (p := ⟨ga, 1, none⟩) nga' (.int .i64 0)).far (p := ⟨ga, 2, none⟩) nga' (.int .i64 0)).far (p := ⟨ga, 3, none⟩) nga' (.int .i64 0))
  have p1 := (ownsRow_setCell_other (a := ⟨ga, 3, none⟩) (ownsRow_setCell_other (a := ⟨ga, 2, none⟩) (ownsRow_setCell_other (a := ⟨ga, 1, none⟩) (ownsRow_setCell_other (a := ⟨ga, 0, none⟩) (ownsRow_setCell_other (a := ⟨g, 4, none⟩) o13 m1 (.slice (some ⟨gr, 0, none⟩) (m - 1) c2)) m2 (.int .i64 0)) m2 (.int .i64 0)) m2 (.int .i64 0)) m2 (.int .i64 0))
  have p2 := (ownsRow_setCell_other (a := ⟨ga, 3, none⟩) (ownsRow_setCell_other (a := ⟨ga, 2, none⟩) (ownsRow_setCell_other (a := ⟨ga, 1, none⟩) (ownsRow_setCell_other (a := ⟨ga, 0, none⟩) (ownsRow_setCell_other (a := ⟨g, 4, none⟩) o23 m3 (.slice (some ⟨gr, 0, none⟩) (m - 1) c2)) m4 (.int .i64 0)) m4 (.int .i64 0)) m4 (.int .i64 0)) m4 (.int .i64 0))
  have bF := (((((bel3.setCell (p := ⟨g, 4, none⟩) (Nat.le_refl _) (.slice (some ⟨gr, 0, none⟩) (m - 1) c2)).setCell (p := ⟨ga, 0, none⟩) (Nat.le_of_lt hgga) (.int .i64 0)).setCell (p := ⟨ga, 1, none⟩) (Nat.le_of_lt hgga) (.int .i64 0)).setCell (p := ⟨ga, 2, none⟩) (Nat.le_of_lt hgga) (.int .i64 0)).setCell (p := ⟨ga, 3, none⟩) (Nat.le_of_lt hgga) (.int .i64 0))
  have e1' : (ls.take k ++ ls.drop (k + 1)).length = m - 1 := by rw [List.length_append, List.length_take, List.length_drop]; omega
  have hfin := Lib.hid (HP.out _ ⟨A1, c1, some ⟨gr, 0, none⟩, c2, by rw [hn, e1']; exact ⟨EF, hc1, by omega, Reads.of_own p1, Reads.of_own p2, own_fresh p1, own_fresh p2⟩⟩ bF)
  clear E4 EF p1 p2 bF e1' m1 m2 m3 m4 o13 o23 bel3 HP E3 F3
  go_wp2_with fail
  exact bodyPost_ret (v := .tuple #[.agg #[.int .i64 0, .int .i64 0, .int .i64 0, .int .i64 0], .bool true]) (by simp [results, Try.results43, go_sem, *]) rfl hfin.out

end Go.Proofs.Ytjgbkicnagcmdaa
