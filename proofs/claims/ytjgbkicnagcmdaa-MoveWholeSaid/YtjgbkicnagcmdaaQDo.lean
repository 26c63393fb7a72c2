/- Queues: 'Do' . -/
import Derived.Test.YtjgbkicnagcmdaaQPub
import Derived.Test.YtjgbkicnagcmdaaQAckDo
import Derived.Test.YtjgbkicnagcmdaaQClone
import Derived.Test.YtjgbkicnagcmdaaQFun
import Derived.Test.YtjgbkicnagcmdaaReg
namespace Go.Proofs.Ytjgbkicnagcmdaa
open Go.RowKit Go.Maps

theorem reads_fresh {w w' : World} {B s n lo : Nat} {A : Option Addr} {xs : List Value} (h : Reads w B s A n xs) (hA : Fresh lo A) (hk : ∀ p : Addr, lo ≤ p.block → w'.cell? p = w.cell? p) : Reads w' B s A n xs :=
  ⟨h.1, fun hn => by
    obtain ⟨ad, e, hb, hc⟩ := h.2 hn
    have := hA ad e
    exact ⟨ad, e, hb, fun j v hv => (hk _ (by rw [block_of_add]; exact this)).trans (hc j v hv)⟩⟩
def DoPost (w : World) (ans : Value) (chg : Bool) (ep nx gv : Int) (rd : List (Int × Int)) (ls : List (Int × Int × Int)) (t : Nat → Int) (f : Nat → Nat → Bool) (e : Ending) (w' : World) : Prop :=
  ∃ A1 c1 A2 c2, e = .returned (.tuple #[.agg (qCells ep nx gv (.slice A1 rd.length c1) (.slice A2 ls.length c2) t f), ans, .bool chg, .int .i64 0]) ∧ rd.length ≤ c1 ∧ ls.length ≤ c2 ∧ Reads w' w'.heap.size 2 A1 rd.length (msgCells rd) ∧ Reads w' w'.heap.size 4 A2 ls.length (lsCells ep ls) ∧ Fresh w.heap.size A1 ∧ Fresh w.heap.size A2 ∧ Below w.heap.size w w'
theorem ans_under : Try.prog.underlying 50 = some (.struct (Try.prog.fieldsOf 50)) := by kernel_rfl
theorem own_kept_none {w : World} {base s n : Nat} {e : TypeId} {v : Value} {xs : List Value} (_ : w.ownsRow base e s v n xs) : v.ownBlock = none ∨ v.ownBlock ≠ none := by
  rcases hv : v.ownBlock with _ | k
  · exact .inl rfl
  · exact .inr (by simp)

set_option maxRecDepth 100000 in
set_option maxHeartbeats 2000000 in
theorem do_ok (ep nx gv : Int) (rd : List (Int × Int)) (ls : List (Int × Int × Int)) (t : Nat → Int) (S : Nat → Int → Bool) (A1 A2 : Option Addr) (n m c1 c2 B : Nat) (w : World) (h : QOk ep nx gv rd ls t S) (hn : rd.length = n) (hm : ls.length = m) (hr : Reads w B 2 A1 n (msgCells rd)) (hr2 : Reads w B 4 A2 m (lsCells ep ls)) (hB : B ≤ w.heap.size) (hc1 : n ≤ c1) (hc2 : m ≤ c2)
    (k p i b he hno : Int) (hev : Ev.check ⟨k, p, i, b, he, hno⟩ = 0) (F : Nat) (hkF : (k = 1 ∧ F = 41) ∨ (k = 2 ∧ F = 42) ∨ (k = 3 ∧ F = 43) ∨ (k = 4 ∧ F = 44))
    (a0 a1 a2 a3 ep' nx' gv' : Int) (chg : Bool) (rd' : List (Int × Int)) (ls' : List (Int × Int × Int)) (t' : Nat → Int) (f' : Nat → Nat → Bool)
    (hact : ∀ g W v1 v2, Blk W g 88 (qCells ep nx gv v1 v2 t (fun i => shows (t i) (S i))) → W.ownsRow (g + 1) 91 2 v1 n (msgCells rd) → W.ownsRow (g + 1) 94 4 v2 m (lsCells ep ls) →
      Calls Try.prog F #[.pointer (some ⟨g, 0, none⟩), .agg #[.int .i64 k, .int .i64 p, .int .i64 i, .int .i64 b, .int .i64 he, .int .i64 hno]] W (ActPost g W (ansV a0 a1 a2 a3) chg ep' nx' gv' rd' ls' t' f')) :
    Calls Try.prog 20 #[.agg (qCells ep nx gv (.slice A1 n c1) (.slice A2 m c2) t (fun i => shows (t i) (S i))), .agg #[.int .i64 k, .int .i64 p, .int .i64 i, .int .i64 b, .int .i64 he, .int .i64 hno]] w (DoPost w (ansV a0 a1 a2 a3) chg ep' nx' gv' rd' ls' t' f') := by
  have QC := Lib.hid (fun W hr hr2 hB => qcheck_ok ep nx gv rd ls t S A1 A2 n m c1 c2 B W h hn hm hr hr2 hB)
  have EC' := fun W => check_any k p i b he hno W
  rw [hev] at EC'
  have EC := Lib.hid EC'
  clear EC' hev
  have hq41 : (qCells ep nx gv (.slice A1 n c1) (.slice A2 m c2) t (fun i => shows (t i) (S i))).size = 41 := rfl
  have hbd := q_build ep nx gv (.slice A1 n c1) (.slice A2 m c2) t (fun i => shows (t i) (S i))
  have HCS := Lib.hid (fun v1 v2 => show ((qCells ep nx gv (.slice A1 n c1) (.slice A2 m c2) t (fun i => shows (t i) (S i))).setIfInBounds 3 v1).setIfInBounds 4 v2 = qCells ep nx gv v1 v2 t (fun i => shows (t i) (S i)) from rfl)
  have q3 := Lib.hid (show (qCells ep nx gv (.slice A1 n c1) (.slice A2 m c2) t (fun i => shows (t i) (S i)))[3]? = some (.slice A1 n c1) from rfl)
  have q4 := Lib.hid (show (qCells ep nx gv (.slice A1 n c1) (.slice A2 m c2) t (fun i => shows (t i) (S i)))[4]? = some (.slice A2 m c2) from rfl)
  have hlen := h.len
  have CM := Lib.hid (fun W hr hB => clone_Msg A1 n c1 B (msgCells rd) W hr (rowCells_oneQ _) hc1 (by omega) hB)
  have CL := Lib.hid (fun W hr hB => clone_Ls A2 m c2 B (lsCells ep ls) W hr (rowCells_oneQ _) hc2 (by omega) hB)
  generalize hqc : qCells ep nx gv (.slice A1 n c1) (.slice A2 m c2) t (fun i => shows (t i) (S i)) = cs at *
  have HBD := Lib.hid hbd
  clear hbd hqc
  have H41 := Lib.hid hq41
  clear hq41 h
  go_enter Try.func20, Try.ntmps20
  go_upto_region 1 with fail
  have hz : (qCells 0 0 0 (.slice none 0 0) (.slice none 0 0) (fun _ => 0) (fun _ _ => false)) = #[.int .i64 0, .int .i64 0, .int .i64 0, .slice none 0 0, .slice none 0 0, .int .i64 0, .bool false, .bool false, .bool false, .bool false, .bool false, .bool false, .bool false, .bool false, .int .i64 0, .bool false, .bool false, .bool false, .bool false, .bool false, .bool false, .bool false, .bool false, .int .i64 0, .bool false, .bool false, .bool false, .bool false, .bool false, .bool false, .bool false, .bool false, .int .i64 0, .bool false, .bool false, .bool false, .bool false, .bool false, .bool false, .bool false, .bool false] := rfl
  rw [← hz]
  have hzs : (qCells 0 0 0 (.slice none 0 0) (.slice none 0 0) (fun _ => 0) (fun _ _ => false)).size = 41 := rfl
  clear hz
  generalize (qCells 0 0 0 (.slice none 0 0) (.slice none 0 0) (fun _ => 0) (fun _ _ => false)) = zs at *
  have H41z := Lib.hid hzs
  clear hzs
  have E0 : Blk ((((w.alloc (.cells cs 46)).alloc (.cells #[.int .i64 k, .int .i64 p, .int .i64 i, .int .i64 b, .int .i64 he, .int .i64 hno] 37)).alloc (.cells zs 46)).alloc (.cells #[.int .i64 0, .int .i64 0, .int .i64 0, .int .i64 0] 50)) w.heap.size 46 cs := (((Blk.new w _ _).alloc _).alloc _).alloc _
  have D0 : Blk ((((w.alloc (.cells cs 46)).alloc (.cells #[.int .i64 k, .int .i64 p, .int .i64 i, .int .i64 b, .int .i64 he, .int .i64 hno] 37)).alloc (.cells zs 46)).alloc (.cells #[.int .i64 0, .int .i64 0, .int .i64 0, .int .i64 0] 50)) (w.heap.size + 1) 37 _ := ((Blk.new' (w := w.alloc (.cells cs 46)) (by simp)).alloc _).alloc _
  have R0 : Blk ((((w.alloc (.cells cs 46)).alloc (.cells #[.int .i64 k, .int .i64 p, .int .i64 i, .int .i64 b, .int .i64 he, .int .i64 hno] 37)).alloc (.cells zs 46)).alloc (.cells #[.int .i64 0, .int .i64 0, .int .i64 0, .int .i64 0] 50)) (w.heap.size + 1 + 1) 46 zs := (Blk.new' (w := (w.alloc (.cells cs 46)).alloc (.cells #[.int .i64 k, .int .i64 p, .int .i64 i, .int .i64 b, .int .i64 he, .int .i64 hno] 37)) (by simp)).alloc _
  have F0 : Blk ((((w.alloc (.cells cs 46)).alloc (.cells #[.int .i64 k, .int .i64 p, .int .i64 i, .int .i64 b, .int .i64 he, .int .i64 hno] 37)).alloc (.cells zs 46)).alloc (.cells #[.int .i64 0, .int .i64 0, .int .i64 0, .int .i64 0] 50)) (w.heap.size + 1 + 1 + 1) 50 _ := Blk.new' (w := ((w.alloc (.cells cs 46)).alloc (.cells #[.int .i64 k, .int .i64 p, .int .i64 i, .int .i64 b, .int .i64 he, .int .i64 hno] 37)).alloc (.cells zs 46)) (by simp)
  have bel0 := ((((Below.refl w.heap.size w).alloc (Nat.le_refl _) (.cells cs 46)).alloc (by simp) (.cells #[.int .i64 k, .int .i64 p, .int .i64 i, .int .i64 b, .int .i64 he, .int .i64 hno] 37)).alloc (by simp; omega) (.cells zs 46)).alloc (by simp; omega) (.cells #[.int .i64 0, .int .i64 0, .int .i64 0, .int .i64 0] 50)
  have r10 := (hr.below (bel0.mono hB))
  have r20 := (hr2.below (bel0.mono hB))
  have hs0 := bel0.size
  generalize (((w.alloc (.cells cs 46)).alloc (.cells #[.int .i64 k, .int .i64 p, .int .i64 i, .int .i64 b, .int .i64 he, .int .i64 hno] 37)).alloc (.cells zs 46)).alloc (.cells #[.int .i64 0, .int .i64 0, .int .i64 0, .int .i64 0] 50) = w0 at *
  clear hr hr2
  go_wp2_with (refine wpList_load_row rfl 46 (.tmp 2) rfl w.heap.size rfl 46 cs (0, 0) _ E0 q_under rfl (by rw [q_size, H41.out]) ?_)
  refine (QC.out _ r10 r20 (by omega)).mono ?_
  rintro e w1 ⟨rfl, b1⟩
  have E1 := E0.below b1 E0.lt
  have D1 := D0.below b1 D0.lt
  have R1 := R0.below b1 R0.lt
  have F1 := F0.below b1 F0.lt
  have r11 := r10.below (b1.mono (by omega))
  have r21 := r20.below (b1.mono (by omega))
  have bel1 := bel0.trans (b1.mono hs0)
  have hs1 := bel1.size
  clear E0 D0 R0 F0 r10 r20 bel0 hs0 b1 QC
  have d0 := D1.cell 0
  have d1 := D1.cell 1
  have d2 := D1.cell 2
  have d3 := D1.cell 3
  have d4 := D1.cell 4
  have d5 := D1.cell 5
  go_wp2_with fail
  refine (EC.out _).mono ?_
  rintro e w2 ⟨rfl, b2⟩
  have E2 := E1.below b2 E1.lt
  have D2 := D1.below b2 D1.lt
  have R2 := R1.below b2 R1.lt
  have F2 := F1.below b2 F1.lt
  have r12 := r11.below (b2.mono (by omega))
  have r22 := r21.below (b2.mono (by omega))
  have bel2 := bel1.trans (b2.mono hs1)
  have hs2 := bel2.size
  clear E1 D1 R1 F1 r11 r21 bel1 hs1 b2 EC d0 d1 d2 d3 d4 d5
  have hsz := H41.out
  go_wp2_with (refine wpList_load_row rfl 46 (.tmp 2) rfl w.heap.size rfl 46 cs (0, 0) _ E2 q_under rfl (by rw [q_size, H41.out]) ?_)
  rw [HBD.out]
  have E3 := E2.alloc (.cells cs 88)
  have D3 := D2.alloc (.cells cs 88)
  have R3 := R2.alloc (.cells cs 88)
  have F3 := F2.alloc (.cells cs 88)
  have K3 := Blk.new w2 88 cs
  have r13 := r12.alloc (by omega) (.cells cs 88)
  have r23 := r22.alloc (by omega) (.cells cs 88)
  have bel3 := bel2.alloc hs2 (.cells cs 88)
  have hgR := R2.lt
  have hgF := F2.lt
  have hgD := D2.lt
  have hgE := E2.lt
  obtain ⟨gd, hgd⟩ : ∃ gd, gd = w2.heap.size := ⟨_, rfl⟩
  rw [← hgd] at K3 ⊢
  have hqd : w.heap.size < gd := by omega
  have hRd : w.heap.size + 1 + 1 < gd := by omega
  have hFd : w.heap.size + 1 + 1 + 1 < gd := by omega
  have hsd : (w2.alloc (.cells cs 88)).heap.size = gd + 1 := by simp [hgd]
  have HSD := Lib.hid hsd
  generalize w2.alloc (.cells cs 88) = wd at *
  clear E2 D2 R2 F2 r12 r22 bel2 hs2 hgd hgR hgF hgD hgE hsd hsz
  have x3 := (E3.cell 3).trans q3.out
  have x4 := (E3.cell 4).trans q4.out
  have y3 := (K3.cell 3).trans q3.out
  have y4 := (K3.cell 4).trans q4.out
  have hdz := K3.lt
  have hez := E3.lt
  have nd1 : ¬ gd = w.heap.size := by omega
  have nd2 : ¬ w.heap.size = gd := by omega
  go_region_held3 (fun W => W.cell? ⟨w.heap.size, 3, none⟩ = some (.slice A1 n c1) ∧ W.cell? ⟨w.heap.size, 4, none⟩ = some (.slice A2 m c2)) (go_keep)
    (first
      | (go_at_call 39; refine (CM.out _ r13.drew (by have := HSD.out; simp; omega)).mono ?_; rintro e w4 ⟨v4, rfl, o4, b4⟩; obtain ⟨A4, c4, rfl, hc4, _⟩ := own_shape o4; have hb4 : Below wd.heap.size wd w4 := (Below.refl _ _).drew.trans (b4.mono (by simp)); have s3 := (hb4.cell (p := ⟨w.heap.size, 3, none⟩) hez).trans x3; have s4 := (hb4.cell (p := ⟨w.heap.size, 4, none⟩) hez).trans x4; have K4 := K3.below hb4 K3.lt; have f4 := K4.frozen; have z4 := K4.lt; have k3 := (K4.cell 3).trans q3.out; have k4 := (K4.cell 4).trans q4.out; have r24 := r23.below (hb4.mono (by have := HSD.out; omega)); clear b4)
      | (go_at_call 40; refine (CL.out _ r24 (by have := HSD.out; have := hb4.size; omega)).mono ?_; rintro e w5 ⟨v5, rfl, o5, b5⟩; obtain ⟨A5, c5, rfl, hc5, _⟩ := own_shape o5; have hb5 : Below w4.heap.size w4 w5 := b5; have t3 := (hb5.cell (p := ⟨w.heap.size, 3, none⟩) (show w.heap.size < w4.heap.size from by have := hb4.size; omega)).trans s3; have t4 := (hb5.cell (p := ⟨w.heap.size, 4, none⟩) (show w.heap.size < w4.heap.size from by have := hb4.size; omega)).trans s4; have K5 := K4.below hb5 z4; have f5 := K5.frozen; have z5 := K5.lt; have l3 := (K5.cell 3).trans q3.out; have l4 := (K5.cell 4).trans q4.out; clear b5))
  have hs4 := hb4.size
  have hs5 := hb5.size
  have hsdv := HSD.out
  have o45 := own_base (base' := gd + 1) (own_below o4 hb5 (Nat.le_refl _)) (by simp; omega)
  have o55 := own_base (base' := gd + 1) o5 (by omega)
  have m1 := own_blk_ne o45 K5 (by decide)
  have m2 := own_blk_ne o55 K5 (by decide)
  have K6 := (K5.set_ 3 (.slice A4 n c4)).set_ 4 (.slice A5 m c5)
  rw [HCS.out] at K6
  have o46 := ownsRow_setCell_other (a := ⟨gd, 4, none⟩) (ownsRow_setCell_other (a := ⟨gd, 3, none⟩) o45 m1 (.slice A4 n c4)) m1 (.slice A5 m c5)
  have o56 := ownsRow_setCell_other (a := ⟨gd, 4, none⟩) (ownsRow_setCell_other (a := ⟨gd, 3, none⟩) o55 m2 (.slice A4 n c4)) m2 (.slice A5 m c5)
  have hbb : Below gd wd w5 := (hb4.mono (by omega)).trans (hb5.mono (by omega))
  have hb6 := (hbb.setCell (p := ⟨gd, 3, none⟩) (Nat.le_refl _) (.slice A4 n c4)).setCell (p := ⟨gd, 4, none⟩) (Nat.le_refl _) (.slice A5 m c5)
  have D6 := D3.below hb6 (by omega)
  have R6 := R3.below hb6 (by omega)
  have F6 := F3.below hb6 (by omega)
  have bel6 := bel3.trans (hb6.mono (by omega))
  generalize (w5.setCell ⟨gd, 3, none⟩ (.slice A4 n c4)).setCell ⟨gd, 4, none⟩ (.slice A5 m c5) = w6 at *
  clear E3 D3 R3 F3 K3 r13 r23 bel3 x3 x4 y3 y4 s3 s4 t3 t4 K4 K5 f4 f5 z4 z5 k3 k4 l3 l4 o4 o5 o45 o55 m1 m2 hbb hb6 hb4 hb5 hs4 hs5 hsdv r24 HSD hdz hez HBD HCS CM CL
  have hmm := @run_makeMap Try.prog
  have CA := Lib.hid hact
  clear hact
  obtain ⟨u1, u2, u3, u4, e1, e2, e3, e4, gg, L1, L2, L3, L4⟩ := acts_map gd w6
  have hfv : ∀ j, fv gd j = .func (.func j) #[.pointer (some ⟨gd, 0, none⟩)] #[] := fun _ => rfl
  rw [hfv] at e1 e2 e3 e4 L1 L2 L3 L4
  clear hfv
  have K7 := K6.grown gg (by simp)
  have D7 := D6.grown gg (by simp)
  have R7 := R6.grown gg (by simp)
  have F7 := F6.grown gg (by simp)
  have o47 := o46.kept gg (own_kept_none o46)
  have o57 := o56.kept gg (own_kept_none o56)
  have bel7 := bel6.grown gg bel6.size (by intro k hk; cases hk)
  have d0 := D7.cell 0
  have d1 := D7.cell 1
  have d2 := D7.cell 2
  have d3 := D7.cell 3
  have d4 := D7.cell 4
  have d5 := D7.cell 5
  have hdz := D7.lt
  clear K6 D6 R6 F6 o46 o56 bel6 gg
  have LK : (Instr.lookup 96 (.map (some w6.heap.size)) (.int .i64 k) false).run Try.prog u4 = .ok (.func (.func F) #[.pointer (some ⟨gd, 0, none⟩)] #[]) u4 := by
    rcases hkF with ⟨hk, hF⟩ | ⟨hk, hF⟩ | ⟨hk, hF⟩ | ⟨hk, hF⟩ <;> subst hk hF <;> assumption
  have HF := Lib.hid (show ∀ args W, (callFunc F args).run Try.prog W = .ok (.enter F args) W from by
    rcases hkF with ⟨_, hF⟩ | ⟨_, hF⟩ | ⟨_, hF⟩ | ⟨_, hF⟩ <;> subst hF <;> intro args W <;> rfl)
  clear hkF L1 L2 L3 L4
  go_wp2_with fail
  rw [HF.out, Oper.upon_enter]
  refine (CA.out gd _ _ _ K7 (by assumption) (by assumption)).mono ?_
  rintro e w8 ⟨rfl, hD, b8⟩
  obtain ⟨⟨A1', c1', A2', c2', K8, hc1', hc2', r18, r28, fr1, fr2⟩⟩ := hD
  have R8 := R7.below b8 hRd
  have F8 := F7.below b8 hFd
  have bel8 := bel7.trans (b8.mono (by omega))
  have K9 := K8.alloc (.cells #[.int .i64 a0, .int .i64 a1, .int .i64 a2, .int .i64 a3] 50)
  have R9 := R8.alloc (.cells #[.int .i64 a0, .int .i64 a1, .int .i64 a2, .int .i64 a3] 50)
  have F9 := F8.alloc (.cells #[.int .i64 a0, .int .i64 a1, .int .i64 a2, .int .i64 a3] 50)
  have hs9 : w8.heap.size ≤ (w8.alloc (.cells #[.int .i64 a0, .int .i64 a1, .int .i64 a2, .int .i64 a3] 50)).heap.size := by simp
  have G9 := Blk.new w8 50 #[.int .i64 a0, .int .i64 a1, .int .i64 a2, .int .i64 a3]
  have r19 := r18.alloc (Nat.le_refl _) (.cells #[.int .i64 a0, .int .i64 a1, .int .i64 a2, .int .i64 a3] 50)
  have r29 := r28.alloc (Nat.le_refl _) (.cells #[.int .i64 a0, .int .i64 a1, .int .i64 a2, .int .i64 a3] 50)
  have bel9 := bel8.alloc bel8.size (.cells #[.int .i64 a0, .int .i64 a1, .int .i64 a2, .int .i64 a3] 50)
  have hK8 := K8.lt
  have hF8 := F8.lt
  have hR8 := R8.lt
  clear K7 D7 R7 F7 o47 o57 bel7 d0 d1 d2 d3 d4 d5 hdz e1 e2 e3 e4 LK hmm b8 K8 R8 F8 r18 r28 bel8 CA
  unfold ansV
  go_upto_region 11 with fail
  obtain ⟨gn, hgn⟩ : ∃ gn, gn = w8.heap.size := ⟨_, rfl⟩
  rw [← hgn] at G9 ⊢
  have hFn : w.heap.size + 1 + 1 + 1 < gn := by omega
  have n1 : ¬ gn = w.heap.size + 1 + 1 + 1 := by omega
  have n2 : ¬ w.heap.size + 1 + 1 + 1 = gn := by omega
  have n3 : w.heap.size + 1 + 1 + 1 ≠ w.heap.size + 1 + 1 := by omega
  generalize w8.alloc (.cells #[.int .i64 a0, .int .i64 a1, .int .i64 a2, .int .i64 a3] 50) = w9 at *
  clear hgn hK8 hF8 hR8
  have h41' : (qCells ep' nx' gv' (.slice A1' rd'.length c1') (.slice A2' ls'.length c2') t' f').size = 41 := rfl
  have hall : (qCells ep' nx' gv' (.slice A1' rd'.length c1') (.slice A2' ls'.length c2') t' f').all (·.oneCell') = true := by kernel_rfl
  generalize hqq : qCells ep' nx' gv' (.slice A1' rd'.length c1') (.slice A2' ls'.length c2') t' f' = cs' at *
  have HQ' := Lib.hid hqq
  have H42 := Lib.hid h41'
  have HALL := Lib.hid hall
  clear hqq h41' hall
  have F10 : Blk (w9.drew.setRow (w.heap.size + 1 + 1) cs') (w.heap.size + 1 + 1 + 1) 50 _ := (F9.drew).setRow_far n3
  have R10 : Blk (w9.drew.setRow (w.heap.size + 1 + 1) cs') (w.heap.size + 1 + 1) 46 cs' := (R9.drew).setRow_
  refine wp_region_held_drew (S := fun W => Blk W gd 88 cs' ∧ Blk W gn 50 #[.int .i64 a0, .int .i64 a1, .int .i64 a2, .int .i64 a3]) (by kernel_rfl) ⟨K9.drew, G9.drew⟩ (fun hS0 => ?_)
  refine takeH (i := 0) (v := .pointer (some ⟨gd, 0, none⟩)) rfl (by kernel_rfl) (by kernel_rfl) (by kernel_rfl) (fun _ _ _ h => h) (Or.inl ⟨by rfl, fun W _ => by go_simp⟩) hS0 ?_
  simp only [Act.put, List.setIfInBounds_toArray, List.set_cons_zero, List.set_cons_succ]
  refine takeH (i := 1) (v := .pointer (some ⟨gd, 0, none⟩)) rfl (by kernel_rfl) (by kernel_rfl) (by kernel_rfl) (fun _ _ _ h => h) (Or.inl ⟨by rfl, fun W _ => by go_simp⟩) hS0 ?_
  simp only [Act.put, List.setIfInBounds_toArray, List.set_cons_zero, List.set_cons_succ]
  refine takeH (i := 2) (v := .pointer (some ⟨gd, 0, none⟩)) rfl (by kernel_rfl) (by kernel_rfl) (by kernel_rfl) (fun _ _ _ h => h) (Or.inl ⟨by rfl, fun W _ => by go_simp⟩) hS0 ?_
  simp only [Act.put, List.setIfInBounds_toArray, List.set_cons_zero, List.set_cons_succ]
  refine takeH (i := 3) rfl (by kernel_rfl) (by kernel_rfl) (by kernel_rfl) (fun _ _ _ h => h) (yieldsIf_load_row (by rfl) 46 (.tmp 66) rfl gd rfl 88 cs' _ (fun W hW => hW.1) q_under rfl (by rw [q_size, H42.out])) hS0 ?_
  simp only [Act.put, List.setIfInBounds_toArray, List.set_cons_zero, List.set_cons_succ]
  refine takeH (i := 4) rfl (by kernel_rfl) (by kernel_rfl) (by kernel_rfl) (fun _ _ _ h => h) (yieldsIf_load_row (by rfl) 50 (.tmp 12) rfl gn rfl 50 #[.int .i64 a0, .int .i64 a1, .int .i64 a2, .int .i64 a3] _ (fun W hW => hW.2) ans_under rfl rfl) hS0 ?_
  simp only [Act.put, List.setIfInBounds_toArray, List.set_cons_zero, List.set_cons_succ]
  refine takeH (i := 5) (v := .bool chg) rfl (by kernel_rfl) (by kernel_rfl) (by kernel_rfl) (fun _ _ _ h => h) (Or.inl ⟨by rfl, fun W _ => by go_simp⟩) hS0 ?_
  simp only [Act.put, List.setIfInBounds_toArray, List.set_cons_zero, List.set_cons_succ]
  refine oneH (i := 6) rfl (by kernel_rfl) rfl (fun K hK => ?_)
  refine wp_store_row 46 (.tmp 4) (.tmp 67) rfl (w.heap.size + 1 + 1) cs' rfl rfl 46 zs R9.drew (by rw [q_size, H42.out]) (by rw [H41z.out, H42.out]) HALL.out ?_
  refine hK _ _ ⟨K9.drew.setRow_far (by omega), G9.drew.setRow_far (by omega)⟩ (fun hS0 => ?_)
  clear hK K
  simp only [Act.put]
  refine oneH (i := 7) rfl (by kernel_rfl) rfl (fun K hK => ?_)
  refine wp_store_row 50 (.tmp 5) (.tmp 68) rfl (w.heap.size + 1 + 1 + 1) #[.int .i64 a0, .int .i64 a1, .int .i64 a2, .int .i64 a3] rfl rfl 50 _ F10 (by kernel_rfl) rfl (by kernel_rfl) ?_
  refine hK _ _ ⟨hS0.1.setRow_far (by omega), hS0.2.setRow_far (by omega)⟩ (fun hS0 => ?_)
  clear hK K
  simp only [Act.put]
  refine oneH (i := 8) rfl (by kernel_rfl) rfl (fun K hK => ?_)
  go_simp
  refine hK _ _ hS0 (fun hS0 => ?_)
  clear hK K
  refine oneH (i := 9) rfl (by kernel_rfl) rfl (fun K hK => ?_)
  go_simp
  refine hK _ _ hS0 (fun hS0 => ?_)
  clear hK K
  refine wpAnyH_done (by kernel_rfl) ?_ _
  have R11 : Blk ((w9.drew.setRow (w.heap.size + 1 + 1) cs').setRow (w.heap.size + 1 + 1 + 1) #[.int .i64 a0, .int .i64 a1, .int .i64 a2, .int .i64 a3]) (w.heap.size + 1 + 1) 46 cs' := R10.setRow_far (by omega)
  have F11 : Blk ((w9.drew.setRow (w.heap.size + 1 + 1) cs').setRow (w.heap.size + 1 + 1 + 1) #[.int .i64 a0, .int .i64 a1, .int .i64 a2, .int .i64 a3]) (w.heap.size + 1 + 1 + 1) 50 #[.int .i64 a0, .int .i64 a1, .int .i64 a2, .int .i64 a3] := F10.setRow_
  have bF := below_setRow (g := w.heap.size + 1 + 1 + 1) (cs := #[.int .i64 a0, .int .i64 a1, .int .i64 a2, .int .i64 a3]) (below_setRow (g := w.heap.size + 1 + 1) (cs := cs') bel9.drew (by omega)) (by omega)
  have hk : ∀ p : Addr, gd + 1 ≤ p.block → ((w9.drew.setRow (w.heap.size + 1 + 1) cs').setRow (w.heap.size + 1 + 1 + 1) #[.int .i64 a0, .int .i64 a1, .int .i64 a2, .int .i64 a3]).cell? p = w9.cell? p := fun p hp =>
    World.cell?_of_block ((setRow_other _ _ _ _ (by omega)).trans (setRow_other _ _ _ _ (by omega)))
  have hz : w9.heap.size ≤ ((w9.drew.setRow (w.heap.size + 1 + 1) cs').setRow (w.heap.size + 1 + 1 + 1) #[.int .i64 a0, .int .i64 a1, .int .i64 a2, .int .i64 a3]).heap.size := by simp
  generalize (w9.drew.setRow (w.heap.size + 1 + 1) cs').setRow (w.heap.size + 1 + 1 + 1) #[.int .i64 a0, .int .i64 a1, .int .i64 a2, .int .i64 a3] = wf at *
  have q1 := (reads_fresh r19 fr1 hk).more (B' := wf.heap.size) (by omega)
  have q2 := (reads_fresh r29 fr2 hk).more (B' := wf.heap.size) (by omega)
  have l4 := run_loadVar_row (P := Try.prog) wf (w.heap.size + 1 + 1) 46 46 cs' (0, 0) _ R11 q_under rfl (by rw [q_size, H42.out])
  have l5 := run_loadVar_row (P := Try.prog) wf (w.heap.size + 1 + 1 + 1) 50 50 #[.int .i64 a0, .int .i64 a1, .int .i64 a2, .int .i64 a3] (0, 0) _ F11 ans_under rfl rfl
  have hfin := Lib.hid (show DoPost w (ansV a0 a1 a2 a3) chg ep' nx' gv' rd' ls' t' f' (.returned (.tuple #[.agg cs', ansV a0 a1 a2 a3, .bool chg, .int .i64 0])) wf from ⟨A1', c1', A2', c2', by rw [HQ'.out], hc1', hc2', q1, q2, fun ad e => by have := fr1 ad e; omega, fun ad e => by have := fr2 ad e; omega, bF⟩)
  clear hk q1 q2 bF r19 r29 bel9 hz hS0 F10 R10 F9 R9 K9 G9
  go_wp2_with fail
  exact bodyPost_ret (v := .tuple #[.agg cs', ansV a0 a1 a2 a3, .bool chg, .int .i64 0]) (by simp [results, Try.results20, asAddr, l4, l5, ansV]) rfl hfin.out

end Go.Proofs.Ytjgbkicnagcmdaa
