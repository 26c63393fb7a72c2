/- 'taped': a tape with some records. -/
import Derived.Test.YtcgamaponeglhaaTape
import Derived.Test.YtcgamaponeglhaaLawRecSize
import Derived.Deep.QuietTactic
import Derived.BigQuiet
import Derived.BigRegion
namespace Go.Proofs.Ytcgamaponeglhaa
open Go.RowKit

/-- the record of rows 2j, 2j+1 -/
def recAt (rows : List (List Int)) (j : Nat) : Rc :=
  recOf ((rows.getD (2 * j) []).getD 0 0) ((rows.getD (2 * j) []).getD 1 0) ((rows.getD (2 * j) []).getD 2 0) ((rows.getD (2 * j) []).getD 3 0)
    ((rows.getD (2 * j + 1) []).getD 0 0) ((rows.getD (2 * j + 1) []).getD 1 0) ((rows.getD (2 * j + 1) []).getD 2 0) ((rows.getD (2 * j + 1) []).getD 3 0)
def recsN (rows : List (List Int)) (k : Nat) : List Rc := (List.range k).map (recAt rows)
def frames (rs : List Rc) : List Int := rs.flatMap fun r => frameOf (recBytes r)
def rcRow (rs : List Rc) : List Value := rs.flatMap fun r => r.cells.toList
theorem recsN_succ (rows : List (List Int)) (k : Nat) : recsN rows (k + 1) = recsN rows k ++ [recAt rows k] := by simp [recsN, List.range_succ]
theorem recsN_length (rows : List (List Int)) (k : Nat) : (recsN rows k).length = k := by simp [recsN]
theorem frames_snoc (rs : List Rc) (r : Rc) : frames (rs ++ [r]) = frames rs ++ frameOf (recBytes r) := by simp [frames]
theorem rcRow_snoc (rs : List Rc) (r : Rc) : rcRow (rs ++ [r]) = rcRow rs ++ r.cells.toList := by simp [rcRow]
theorem recAt_check (rows : List (List Int)) (j : Nat) : (recAt rows j).check = 0 := recOf_check _ _ _ _ _ _ _ _
theorem frames_len (rs : List Rc) : (frames rs).length ≤ 46 * rs.length := by
  induction rs with
  | nil => simp [frames]
  | cons r rs ih =>
    have := recBytes_le r
    have h2 := frameOf_length (recBytes r)
    simp only [frames, List.flatMap_cons, List.length_append, List.length_cons] at ih ⊢
    omega

/-- the four cells of a row -/
theorem row4 {w : World} {B n k : Nat} {A : Option Addr} {rows : List (List Int)} (hl : rows.length = n) (hs : ∀ r ∈ rows, r.length = 4 ∧ ∀ z ∈ r, (Lit.int .i64 z).wf = true) (h : Reads w B 4 A n (rowCells rows)) (hk : k < n) :
    ∃ b off, A = some ⟨b, off, none⟩ ∧ b < B ∧ (∀ j, j < 4 → w.cell? ⟨b, off + (k * 4 + j), none⟩ = some (.int .i64 ((rows.getD k []).getD j 0))) ∧ ∀ j, Is64 ((rows.getD k []).getD j 0) := by
  obtain ⟨b, off, rfl, hb, hc⟩ := h.plain (by omega) (by omega)
  have hr : rows[k]? = some (rows.getD k []) := by rw [List.getElem?_eq_getElem (show k < rows.length by omega)]; simp [List.getD, List.getElem?_eq_getElem (show k < rows.length by omega)]
  have hmem : rows.getD k [] ∈ rows := List.mem_of_getElem? hr
  obtain ⟨h4, hz⟩ := hs _ hmem
  refine ⟨b, off, rfl, hb, fun j hj => ?_, fun j => ?_⟩
  · refine hc _ _ ?_
    rw [rowCells_at 4 rows (fun r hr => (hs r hr).1) k j _ hr hj]
    generalize rows.getD k [] = row at *
    rw [List.getElem?_eq_getElem (show j < row.length by omega)]
    simp [List.getD, List.getElem?_eq_getElem (show j < row.length by omega)]
  · generalize rows.getD k [] = row at *
    by_cases hj : j < 4
    · refine is64_of_wf (hz _ ?_)
      rw [List.getD, List.getElem?_eq_getElem (show j < row.length by omega)]
      simp
    · rw [List.getD, List.getElem?_eq_none (by omega)]
      simp [Is64]

def TapedPost (w : World) (rs : List Rc) (e : Ending) (w' : World) : Prop :=
  ∃ v u, e = .returned (.tuple #[.agg #[v, .int .i64 0], u, .bool true]) ∧ w'.ownsRow w.heap.size 5 1 v (frames rs).length ((frames rs).map (Value.int .u8)) ∧ w'.ownsRow w.heap.size 29 10 u rs.length (rcRow rs) ∧ Below w.heap.size w w'

def rounds (n : Nat) : Nat := min (n / 2) 10

theorem rec_info : (Try.prog.info? 29).map (fun i => (i.zero, i.size, i.bytes)) = some (some (Rc.val ⟨0, 0, 0, 0, Ev.zero⟩), 10, 80) := by kernel_rfl

theorem rcRow_len (rs : List Rc) : (rcRow rs).length = rs.length * 10 := by
  induction rs with
  | nil => rfl
  | cons r rs ih => simp only [rcRow, List.flatMap_cons, List.length_append, List.length_cons] at ih ⊢; rw [ih]; simp [Rc.cells]; omega

/-- what holds ahead of a round of 'taped' -/
structure TS (w : World) (d : List Int) (rs : List Rc) (v u : Value) (wr : World) : Prop where
  res : Blk wr w.heap.size 45 #[.slice none 0 0, .int .i64 0]
  tape : Blk wr (w.heap.size + 1) 45 #[v, .int .i64 0]
  own : wr.ownsRow w.heap.size 5 1 v d.length (d.map (Value.int .u8))
  rows : wr.ownsRow w.heap.size 29 10 u rs.length (rcRow rs)
  bel : Below w.heap.size w wr

theorem TS.lt {w wr : World} {d : List Int} {rs : List Rc} {v u : Value} (h : TS w d rs v u wr) : w.heap.size + 1 < wr.heap.size := h.tape.lt
theorem TS.below {w wr w' : World} {d : List Int} {rs : List Rc} {v u : Value} (h : TS w d rs v u wr) (hb : Below wr.heap.size wr w') : TS w d rs v u w' :=
  ⟨h.res.below hb h.res.lt, h.tape.below hb h.tape.lt, own_below h.own hb (Nat.le_refl _), own_below h.rows hb (Nat.le_refl _), h.bel.trans (hb.mono h.bel.size)⟩
theorem TS.alloc {w wr : World} {d : List Int} {rs : List Rc} {v u : Value} (h : TS w d rs v u wr) (o : Obj) : TS w d rs v u (wr.alloc o) := h.below ((Below.refl _ _).alloc (Nat.le_refl _) o)
theorem TS.drew {w wr : World} {d : List Int} {rs : List Rc} {v u : Value} (h : TS w d rs v u wr) : TS w d rs v u wr.drew := h.below (Below.refl _ _).drew

theorem own_grown {w w' : World} {base size n : Nat} {e : TypeId} {v : Value} {xs : List Value} {row : Option Nat} (h : w.ownsRow base e size v n xs) (hg : w.grownBy w' row) (hne : ∀ g, v.ownBlock = some g → row ≠ some g) : w'.ownsRow base e size v n xs := by
  refine ⟨h.1, ?_⟩
  rcases h.2 with hn | ⟨g, cap, cur, rfl, hb, hh, r⟩
  · exact .inl hn
  · have hlt : g < w.heap.size := by
      rcases Nat.lt_or_ge g w.heap.size with h' | h'
      · exact h'
      · rw [Array.getElem?_eq_none h'] at hh; cases hh
    exact .inr ⟨g, cap, cur, rfl, hb, by rw [hg.block g hlt (fun h => hne g rfl h.symm)]; exact hh, r⟩
theorem own_row_ne {w : World} {base base' size size' n m : Nat} {e e' : TypeId} {v u : Value} {xs ys : List Value} (h : w.ownsRow base e size v n xs) (k : w.ownsRow base' e' size' u m ys) (hne : e ≠ e') : ∀ g, v.ownBlock = some g → u.ownBlock ≠ some g := by
  intro g hv hu
  rcases h.2 with ⟨rfl, _⟩ | ⟨g1, cap, cur, rfl, _, h1, _⟩
  · cases hv
  · rcases k.2 with ⟨rfl, _⟩ | ⟨g2, cap2, cur2, rfl, _, h2, _⟩
    · cases hu
    · have e1 : g1 = g := by injection hv
      have e2 : g2 = g := by injection hu
      subst e1 e2
      rw [h1] at h2
      injection h2 with h2
      injection h2 with _ h2
      exact hne h2

theorem reads_rec (w : World) (r : Rc) : Reads (w.alloc (.cells r.cells 29)) (w.heap.size + 1) 10 (some ⟨w.heap.size, 0, none⟩) 1 r.cells.toList := by
  refine ⟨by simp [Rc.cells], fun _ => ⟨_, rfl, by simp, fun j u hj => ?_⟩⟩
  have e : (⟨w.heap.size, 0, none⟩ : Addr).add j = ⟨w.heap.size, j, none⟩ := by
    unfold Addr.add
    by_cases h : j = 0 <;> simp [h]
  rw [e, (Blk.new w 29 r.cells).cell j]
  simpa using hj
theorem one_rec (r : Rc) : ∀ u ∈ r.cells.toList, u.oneCell' = true := by
  intro u hu
  simp [Rc.cells] at hu
  rcases hu with h | h | h | h | h | h | h | h | h | h <;> subst h <;> rfl

theorem TS.put {w wr : World} {d d' : List Int} {rs : List Rc} {v u v' : Value} (h : TS w d rs v u wr) (ho : wr.ownsRow w.heap.size 5 1 v' d'.length (d'.map (Value.int .u8))) :
    TS w d' rs v' u ((wr.setCell ⟨w.heap.size + 1, 0, none⟩ v').setCell ⟨w.heap.size + 1, 1, none⟩ (.int .i64 0)) := by
  have n1 := own_blk_ne ho h.tape (by decide)
  have n2 := own_blk_ne h.rows h.tape (by decide)
  exact ⟨(h.res.far (by simp) _).far (by simp) _, (h.tape.set_ 0 v').set_ 1 _, ownsRow_setCell_other (ownsRow_setCell_other ho n1 _) n1 _, ownsRow_setCell_other (ownsRow_setCell_other h.rows n2 _) n2 _,
    (h.bel.setCell (by simp) _).setCell (by simp) _⟩
theorem TS.push {w wr w' : World} {d : List Int} {rs : List Rc} {r : Rc} {v u u' : Value} (h : TS w d rs v u wr) (ho : w'.ownsRow w.heap.size 29 10 u' (rs.length + 1) (rcRow rs ++ r.cells.toList)) (hg : wr.grownBy w' u.ownBlock) :
    TS w d (rs ++ [r]) v u' w' := by
  have n1 := own_blk_ne h.rows h.res (by decide)
  have n2 := own_blk_ne h.rows h.tape (by decide)
  exact ⟨h.res.grown hg (fun e => n1 e.symm), h.tape.grown hg (fun e => n2 e.symm), own_grown h.own hg (own_row_ne h.own h.rows (by decide)), by rw [rcRow_snoc, List.length_append]; exact ho, h.bel.grown hg h.bel.size (own_block_ge h.rows)⟩

set_option maxRecDepth 100000 in
set_option maxHeartbeats 1000000 in
theorem taped_any (A : Option Addr) (n c : Nat) (rows : List (List Int)) (w : World) (h : IsRows 4 32 w A n c rows) :
    Calls Try.prog 20 #[.slice A n c] w (TapedPost w (recsN rows (rounds n))) := by
  obtain ⟨hl, hnc, hcb, hr, hs⟩ := h
  obtain ⟨i0, hi0, hz0, hz1, hz2⟩ := info_parts rec_info
  obtain ⟨K, hK⟩ : ∃ K, rounds n = K := ⟨_, rfl⟩
  have hK1 : K ≤ 10 := by unfold rounds at hK; omega
  have hK2 : ∀ k : Nat, k < K ↔ 2 * k + 1 < n ∧ 2 * k < 20 := fun k => by unfold rounds at hK; omega
  rw [hK]
  clear hK
  have hT0 : ∀ W, Blk W w.heap.size 45 #[.slice none 0 0, .int .i64 0] → Blk W (w.heap.size + 1) 45 #[.slice none 0 0, .int .i64 0] → Below w.heap.size w W → TS w (frames (recsN rows 0)) (recsN rows 0) (.slice none 0 0) (.slice none 0 0) W :=
    fun W h1 h2 h3 => ⟨h1, h2, World.ownsRow_nil _ _ _ _, World.ownsRow_nil _ _ _ _, h3⟩
  go_enter Try.func20, Try.ntmps20
  go_wp2_with fail
  go_loopw [6, 7] (fun s6 s7 wr => ∃ (k : Nat) (v : Value), k ≤ K ∧ s7 = .int .i64 ((2 * k : Nat) : Int) ∧ TS w (frames (recsN rows k)) (recsN rows k) v s6 wr) (fun _ s7 _ => 20 - (intOf s7).toNat)
  case atStart =>
    have e2 := Blk.new (w.alloc (.cells #[.slice none 0 0, .int .i64 0] 45)) 45 #[.slice none 0 0, .int .i64 0]
    rw [World.size_alloc] at e2
    exact ⟨0, .slice none 0 0, by omega, rfl, hT0 _ ((Blk.new w 45 #[.slice none 0 0, .int .i64 0]).alloc _) e2 (((Below.refl _ _).alloc (Nat.le_refl _) _).alloc (by simp) _)⟩
  case round =>
    clear hT0
    obtain ⟨k, v, hk, rfl, H⟩ := hrel
    have hT := hK2 k
    have hlen := recsN_length rows k
    have hU := Lib.hid (recsN_succ rows k)
    have hc0 := recAt_check rows k
    have hfl := frames_len (recsN rows k)
    obtain ⟨rs, hrs⟩ : ∃ rs, recsN rows k = rs := ⟨_, rfl⟩
    rw [hrs] at H hlen hU hfl
    have HRS := Lib.hid hrs
    clear hrs
    obtain ⟨p, hp⟩ : ∃ p : Nat, 2 * k = p := ⟨_, rfl⟩
    rw [hp] at hT ⊢
    by_cases hlt : k < K
    · obtain ⟨b, off, rfl, hb, g1, l1⟩ := row4 hl hs hr (show p < n by omega)
      obtain ⟨b', off', e, _, g2, l2⟩ := row4 hl hs hr (show p + 1 < n by omega)
      injection e with e
      injection e with e1 e2
      subst e1 e2
      have CR := fun W => Lib.hid (record_any _ _ _ _ _ _ _ _ W (l1 0) (l1 1) (l1 2) (l1 3) (l2 0) (l2 1) (l2 2) (l2 3))
      have HR := Lib.hid (show recAt rows k = recOf ((rows.getD p []).getD 0 0) ((rows.getD p []).getD 1 0) ((rows.getD p []).getD 2 0) ((rows.getD p []).getD 3 0)
        ((rows.getD (p + 1) []).getD 0 0) ((rows.getD (p + 1) []).getD 1 0) ((rows.getD (p + 1) []).getD 2 0) ((rows.getD (p + 1) []).getD 3 0) by unfold recAt; rw [hp])
      have q0 : w.cell? ⟨b, off + p * 4, none⟩ = _ := g1 0 (by omega)
      have q1 : w.cell? ⟨b, off + p * 4 + 1, none⟩ = _ := g1 1 (by omega)
      have q2 : w.cell? ⟨b, off + p * 4 + 2, none⟩ = _ := g1 2 (by omega)
      have q3 : w.cell? ⟨b, off + p * 4 + 3, none⟩ = _ := g1 3 (by omega)
      have q4 : w.cell? ⟨b, off + (p + 1) * 4, none⟩ = _ := g2 0 (by omega)
      have q5 : w.cell? ⟨b, off + (p + 1) * 4 + 1, none⟩ = _ := g2 1 (by omega)
      have q6 : w.cell? ⟨b, off + (p + 1) * 4 + 2, none⟩ = _ := g2 2 (by omega)
      have q7 : w.cell? ⟨b, off + (p + 1) * 4 + 3, none⟩ = _ := g2 3 (by omega)
      clear g1 g2 l1 l2 hr hs
      have hcell : ∀ o v, w.cell? ⟨b, o, none⟩ = some v → wr.cell? ⟨b, o, none⟩ = some v := fun o v h => (H.bel.cell hb).trans h
      replace q0 := hcell _ _ q0
      replace q1 := hcell _ _ q1
      replace q2 := hcell _ _ q2
      replace q3 := hcell _ _ q3
      replace q4 := hcell _ _ q4
      replace q5 := hcell _ _ q5
      replace q6 := hcell _ _ q6
      replace q7 := hcell _ _ q7
      clear hcell
      rw [← HR.out] at CR
      generalize recAt rows k = r at *
      generalize (rows.getD p []).getD 0 0 = z0 at *
      generalize (rows.getD p []).getD 1 0 = z1 at *
      generalize (rows.getD p []).getD 2 0 = z2 at *
      generalize (rows.getD p []).getD 3 0 = z3 at *
      generalize (rows.getD (p + 1) []).getD 0 0 = z4 at *
      generalize (rows.getD (p + 1) []).getD 1 0 = z5 at *
      generalize (rows.getD (p + 1) []).getD 2 0 = z6 at *
      generalize (rows.getD (p + 1) []).getD 3 0 = z7 at *
      clear HR
      have hbw : b < wr.heap.size := by have := H.lt; omega
      have hI1 : (p : Int) + 1 < (n : Int) := by omega
      have hI2 : (p : Int) < 20 := by omega
      have hI0 : (p : Int) < (n : Int) := by omega
      have hI3 : (0 : Int) ≤ (p : Int) + 1 := by omega
      have hP0 : p < n := by omega
      have hP1 : p + 1 < n := by omega
      have i1 : IntKind.i64.wrap ((p : Int) + 1) = (p : Int) + 1 := IntWalk.i64_in _ (by omega)
      have ne1 : ¬ b = wr.heap.size := by omega
      have ne2 : ¬ wr.heap.size = b := by omega
      have HC := Lib.hid hc0
      clear hc0
      obtain ⟨rk, rq, re, rp, ⟨x0, x1, x2, x3, x4, x5⟩⟩ := r
      go_upto_region 6 with fail
      go_cut [8] (fun s8 wx => ∃ g, s8 = .pointer (some ⟨g, 0, none⟩) ∧ Blk wx g 29 (Rc.cells ⟨rk, rq, re, rp, ⟨x0, x1, x2, x3, x4, x5⟩⟩) ∧ w.heap.size + 1 < g ∧ TS w (frames rs) rs v u6 wx)
      case first =>
        go_region_held3 (fun W => W.cell? ⟨b, off + p * 4, none⟩ = some (.int .i64 z0) ∧ W.cell? ⟨b, off + p * 4 + 1, none⟩ = some (.int .i64 z1) ∧ W.cell? ⟨b, off + p * 4 + 2, none⟩ = some (.int .i64 z2) ∧ W.cell? ⟨b, off + p * 4 + 3, none⟩ = some (.int .i64 z3) ∧ W.cell? ⟨b, off + (p + 1) * 4, none⟩ = some (.int .i64 z4) ∧ W.cell? ⟨b, off + (p + 1) * 4 + 1, none⟩ = some (.int .i64 z5) ∧ W.cell? ⟨b, off + (p + 1) * 4 + 2, none⟩ = some (.int .i64 z6) ∧ W.cell? ⟨b, off + (p + 1) * 4 + 3, none⟩ = some (.int .i64 z7)) (go_keep)
          (first
            | (go_at_call 13; refine (CR _).out.mono ?_; rintro e w2 ⟨rfl, hb1⟩; unfold Rc.val Rc.cells; have eN : Blk w2 wr.heap.size 29 (Rc.cells ⟨0, 0, 0, 0, Ev.zero⟩) := (by first | exact ((Blk.new wr 29 (Rc.cells ⟨0, 0, 0, 0, Ev.zero⟩)).drew).below hb1 (by simp) | exact (Blk.new wr.drew 29 (Rc.cells ⟨0, 0, 0, 0, Ev.zero⟩)).below hb1 (by simp)); have hbW : Below wr.heap.size wr w2 := (by first | exact (Below.refl _ _).drew.trans (hb1.mono (by simp)) | exact ((Below.refl _ _).alloc (Nat.le_refl _) _).drew.trans (hb1.mono (by simp)) | exact ((Below.refl _ _).drew.alloc (by simp) _).trans (hb1.mono (by simp))); have p0 := (hbW.cell (p := ⟨b, off + p * 4, none⟩) hbw).trans q0; have p1 := (hbW.cell (p := ⟨b, off + p * 4 + 1, none⟩) hbw).trans q1; have p2 := (hbW.cell (p := ⟨b, off + p * 4 + 2, none⟩) hbw).trans q2; have p3 := (hbW.cell (p := ⟨b, off + p * 4 + 3, none⟩) hbw).trans q3; have p4 := (hbW.cell (p := ⟨b, off + (p + 1) * 4, none⟩) hbw).trans q4; have p5 := (hbW.cell (p := ⟨b, off + (p + 1) * 4 + 1, none⟩) hbw).trans q5; have p6 := (hbW.cell (p := ⟨b, off + (p + 1) * 4 + 2, none⟩) hbw).trans q6; have p7 := (hbW.cell (p := ⟨b, off + (p + 1) * 4 + 3, none⟩) hbw).trans q7; have fN := eN.frozen; have zN := eN.lt; obtain ⟨y0, y1, y2, y3, y4, y5, y6, y7, y8, y9⟩ := rcBlk eN; clear hb1)
            | (go_at_call 13; refine (CR _).out.mono ?_; rintro e w2 ⟨rfl, hb1⟩; unfold Rc.val Rc.cells; have hbW : Below wr.heap.size wr w2 := (by first | exact (Below.refl _ _).drew.trans (hb1.mono (by simp)) | exact ((Below.refl _ _).alloc (Nat.le_refl _) _).drew.trans (hb1.mono (by simp)) | exact ((Below.refl _ _).drew.alloc (by simp) _).trans (hb1.mono (by simp))); have p0 := (hbW.cell (p := ⟨b, off + p * 4, none⟩) hbw).trans q0; have p1 := (hbW.cell (p := ⟨b, off + p * 4 + 1, none⟩) hbw).trans q1; have p2 := (hbW.cell (p := ⟨b, off + p * 4 + 2, none⟩) hbw).trans q2; have p3 := (hbW.cell (p := ⟨b, off + p * 4 + 3, none⟩) hbw).trans q3; have p4 := (hbW.cell (p := ⟨b, off + (p + 1) * 4, none⟩) hbw).trans q4; have p5 := (hbW.cell (p := ⟨b, off + (p + 1) * 4 + 1, none⟩) hbw).trans q5; have p6 := (hbW.cell (p := ⟨b, off + (p + 1) * 4 + 2, none⟩) hbw).trans q6; have p7 := (hbW.cell (p := ⟨b, off + (p + 1) * 4 + 3, none⟩) hbw).trans q7; clear hb1))
        all_goals
          go_wp2_with fail
          go_meet
          first
            | (rw [put10_eq]
               exact ⟨wr.heap.size, rfl, putFrom_blk eN _ rfl, H.lt, H.below (putFrom_below (Nat.le_refl _) _ _ _ hbW)⟩)
            | exact ⟨w2.heap.size, rfl, Blk.new _ _ _, by have := hbW.size; have := H.lt; omega, H.below (hbW.alloc hbW.size _)⟩
      case rest =>
        obtain ⟨g, rfl, eR, hg, H2⟩ := hcut
        clear H q0 q1 q2 q3 q4 q5 q6 q7 CR ne1 ne2 hbw
        obtain ⟨Av, cv, rfl, hcv, hcv2⟩ := own_shape H2.own
        have CW := Lib.hid (fun W hd hB => write_ok Av (frames rs).length cv W.heap.size (frames rs) 0 _ W hd hcv (by omega) hB (by omega) (by omega) HC.out)
        have t0 := H2.tape.cell 0
        have t1 := H2.tape.cell 1
        obtain ⟨y0, y1, y2, y3, y4, y5, y6, y7, y8, y9⟩ := rcBlk eR
        have zR := eR.lt
        go_wp2_with fail
        refine (CW.out wc (Reads.of_own H2.own) (Nat.le_refl _)).mono ?_
        rintro e w3 ⟨v3, rfl, o3, b3⟩
        have H3 := H2.below b3
        have eR3 := eR.below b3 eR.lt
        rw [← List.length_append.trans (congrArg _ (frameOf_length _))] at o3
        have hN : (frames rs).length < (frames rs ++ frameOf (recBytes ⟨rk, rq, re, rp, ⟨x0, x1, x2, x3, x4, x5⟩⟩)).length := by rw [List.length_append, frameOf_length]; omega
        rw [← frames_snoc] at o3 hN
        have o4 := own_base o3 H2.bel.size
        have hfl2 := frames_len (rs ++ [⟨rk, rq, re, rp, ⟨x0, x1, x2, x3, x4, x5⟩⟩])
        rw [← hU.out] at o4 hN hfl2
        obtain ⟨d', hd'⟩ : ∃ d', frames (recsN rows (k + 1)) = d' := ⟨_, rfl⟩
        rw [hd'] at o4 hN hfl2
        have HD := Lib.hid hd'
        clear hd'
        clear H2 eR o3 b3 CW t0 t1 y0 y1 y2 y3 y4 y5 y6 y7 y8 y9 zR
        obtain ⟨Aw, cw, rfl, hcw, hcw2⟩ := own_shape o4
        have t0 := H3.tape.cell 0
        have t1 := H3.tape.cell 1
        have ft := H3.tape.frozen
        have zt := H3.lt
        obtain ⟨y0, y1, y2, y3, y4, y5, y6, y7, y8, y9⟩ := rcBlk eR3
        have zR := eR3.lt
        have hNI : ¬ ((d'.length : Int) ≤ ((frames rs).length : Int)) := by omega
        have H4 := (H3.put o4).alloc (.cells #[.slice Aw d'.length cw, .int .i64 0] 45)
        have o5 := H4.rows.alloc (.cells (Rc.cells ⟨rk, rq, re, rp, ⟨x0, x1, x2, x3, x4, x5⟩⟩) 29)
        have rR := reads_rec (((w3.setCell ⟨w.heap.size + 1, 0, none⟩ (.slice Aw d'.length cw)).setCell ⟨w.heap.size + 1, 1, none⟩ (.int .i64 0)).alloc (.cells #[.slice Aw d'.length cw, .int .i64 0] 45)) ⟨rk, rq, re, rp, ⟨x0, x1, x2, x3, x4, x5⟩⟩
        rw [show (((w3.setCell ⟨w.heap.size + 1, 0, none⟩ (.slice Aw d'.length cw)).setCell ⟨w.heap.size + 1, 1, none⟩ (.int .i64 0)).alloc (.cells #[.slice Aw d'.length cw, .int .i64 0] 45)).heap.size = w3.heap.size + 1 by simp] at rR
        have FH := Lib.hid (fun u' w' ho hg => (H4.alloc (.cells (Rc.cells ⟨rk, rq, re, rp, ⟨x0, x1, x2, x3, x4, x5⟩⟩) 29)).push (r := ⟨rk, rq, re, rp, ⟨x0, x1, x2, x3, x4, x5⟩⟩) (u' := u') (w' := w') ho hg)
        have hsz := H4.bel.size
        have i2 : IntKind.i64.wrap ((p : Int) + 2) = (p : Int) + 2 := IntWalk.i64_in _ (by omega)
        have OR := one_rec ⟨rk, rq, re, rp, ⟨x0, x1, x2, x3, x4, x5⟩⟩
        have hgt : ¬ w.heap.size + 1 = g := by omega
        have hgt2 : ¬ g = w.heap.size + 1 := by omega
        clear H3 H4 hcv hcv2 hcw hcw2 hK2
        go_wp2_with (at_builtin; refine wpList_append_any _ rfl (.tmp 52) (.tmp 54) _ rfl w.heap.size 29 i0 _ 10 80 Try.underlying50 hi0 hz0 hz1 hz2 rfl (by omega) u6 rs.length (rcRow rs) rfl o5 _ _ 1 1 _ rfl rR OR (by simp only [maxLen]; omega) (by omega) (Nat.le_trans hsz (by simp)) ?_; intro v6 w6 o6 g6 at6)
        have H6 := FH.out v6 w6 o6 g6
        clear FH o6 g6 at6 o5 rR
        go_roundw
        case rel => exact ⟨k + 1, _, by omega, by rw [show ((2 * (k + 1) : Nat) : Int) = (p : Int) + 2 by omega], by rw [HD.out, hU.out]; exact H6⟩
        case measure => simp [intOf]; omega
    · obtain rfl : k = K := by omega
      obtain ⟨Av, cv, rfl, hcv, hcv2⟩ := own_shape H.own
      have t0 := H.tape.cell 0
      have t1 := H.tape.cell 1
      have s0 := H.res.cell 0
      have s1 := H.res.cell 1
      have fr := H.res.frozen
      have zt := H.lt
      have n1 := own_blk_ne H.own H.res (by decide)
      have n2 := own_blk_ne H.rows H.res (by decide)
      have FIN : TapedPost w (recsN rows k) (.returned (.tuple #[.agg #[.slice Av (frames rs).length cv, .int .i64 0], u6, .bool true])) ((wr.setCell ⟨w.heap.size, 0, none⟩ (.slice Av (frames rs).length cv)).setCell ⟨w.heap.size, 1, none⟩ (.int .i64 0)) :=
        ⟨_, _, rfl, by rw [HRS.out]; exact ownsRow_setCell_other (ownsRow_setCell_other H.own n1 _) n1 _, by rw [HRS.out]; exact ownsRow_setCell_other (ownsRow_setCell_other H.rows n2 _) n2 _, (H.bel.setCell (Nat.le_refl _) _).setCell (Nat.le_refl _) _⟩
      have FH := Lib.hid FIN
      clear FIN n1 n2 hr hs hK2 hU
      generalize TapedPost w (recsN rows k) = POST at *
      clear H
      by_cases hI1 : (p : Int) + 1 < (n : Int)
      · have hI2 : ¬ (p : Int) < 20 := by omega
        go_wp2
        exact bodyPost_ret (v := .tuple #[.agg #[.slice Av (frames rs).length cv, .int .i64 0], u6, .bool true]) (by simp [results, Try.results20, go_sem, *]) rfl FH.out
      · go_wp2
        exact bodyPost_ret (v := .tuple #[.agg #[.slice Av (frames rs).length cv, .int .i64 0], u6, .bool true]) (by simp [results, Try.results20, go_sem, *]) rfl FH.out

end Go.Proofs.Ytcgamaponeglhaa
