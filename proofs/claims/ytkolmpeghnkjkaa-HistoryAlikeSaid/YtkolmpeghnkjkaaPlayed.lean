/- Queues: 'played'. -/
import Derived.Test.YtkolmpeghnkjkaaQEnd
import Derived.Test.YtkolmpeghnkjkaaPl
import Derived.Test.YtkolmpeghnkjkaaRow
import Derived.Deep.RegionHeld3
namespace Go.Proofs.Ytkolmpeghnkjkaa
open Go.RowKit

theorem row4q {w : World} {B n k : Nat} {A : Option Addr} {rows : List (List Int)} (hl : rows.length = n) (hs : ∀ r ∈ rows, r.length = 4 ∧ ∀ z ∈ r, (Lit.int .i64 z).wf = true) (h : Reads w B 4 A n (rowCells rows)) (hk : k < n) :
    ∃ b off, A = some ⟨b, off, none⟩ ∧ b < B ∧ (∀ j, j < 4 → w.cell? ⟨b, off + (k * 4 + j), none⟩ = some (.int .i64 ((rows.getD k []).getD j 0))) ∧ ∀ j, Is64 ((rows.getD k []).getD j 0) := by
  obtain ⟨b, off, rfl, hb, hc⟩ := h.plain (by omega) (by omega)
  have hr : rows[k]? = some (rows.getD k []) := by rw [List.getElem?_eq_getElem (show k < rows.length by omega)]; simp [List.getD, List.getElem?_eq_getElem (show k < rows.length by omega)]
  have hmem : rows.getD k [] ∈ rows := List.mem_of_getElem? hr
  obtain ⟨h4, hz⟩ := hs _ hmem
  refine ⟨b, off, rfl, hb, fun j hj => ?_, fun j => ?_⟩
  · refine hc _ _ ?_
    rw [rowCells_at 4 rows (fun r hr => (hs r hr).1) k j _ hr hj]
    generalize rows.getD k [] = row at *
    rw [List.getElem?_eq_getElem (show j < row.length by omega)]
    simp [List.getD, List.getElem?_eq_getElem (show j < row.length by omega)]
  · generalize rows.getD k [] = row at *
    by_cases hj : j < 4
    · refine is64_of_wf (hz _ ?_)
      rw [List.getD, List.getElem?_eq_getElem (show j < row.length by omega)]
      simp
    · rw [List.getD, List.getElem?_eq_none (by omega)]
      simp [Is64]
theorem own_grownQ {w w' : World} {base size n : Nat} {e : TypeId} {v : Value} {xs : List Value} {row : Option Nat} (h : w.ownsRow base e size v n xs) (hg : w.grownBy w' row) (hne : ∀ g, v.ownBlock = some g → row ≠ some g) : w'.ownsRow base e size v n xs := by
  refine ⟨h.1, ?_⟩
  rcases h.2 with hn | ⟨g, cap, cur, rfl, hb, hh, r⟩
  · exact .inl hn
  · have hlt : g < w.heap.size := by
      rcases Nat.lt_or_ge g w.heap.size with h' | h'
      · exact h'
      · rw [Array.getElem?_eq_none h'] at hh; cases hh
    exact .inr ⟨g, cap, cur, rfl, hb, by rw [hg.block g hlt (fun h => hne g rfl h.symm)]; exact hh, r⟩
theorem own_row_neQ {w : World} {base base' size size' n m : Nat} {e e' : TypeId} {v u : Value} {xs ys : List Value} (h : w.ownsRow base e size v n xs) (k : w.ownsRow base' e' size' u m ys) (hne : e ≠ e') : ∀ g, v.ownBlock = some g → u.ownBlock ≠ some g := by
  intro g hv hu
  rcases h.2 with ⟨rfl, _⟩ | ⟨g1, cap, cur, rfl, _, h1, _⟩
  · cases hv
  · rcases k.2 with ⟨rfl, _⟩ | ⟨g2, cap2, cur2, rfl, _, h2, _⟩
    · cases hu
    · have e1 : g1 = g := by injection hv
      have e2 : g2 = g := by injection hu
      subst e1 e2
      rw [h1] at h2
      injection h2 with h2
      injection h2 with _ h2
      exact hne h2
theorem own_setRow {w : World} {base size n g : Nat} {e t : TypeId} {v : Value} {xs : List Value} {cs ds : Array Value} (h : w.ownsRow base e size v n xs) (hg : Blk w g t cs) (hne : e ≠ t) : (w.setRow g ds).ownsRow base e size v n xs :=
  own_grownQ h (row := some g) ⟨rfl, rfl, rfl, by simp, fun k _ hk => setRow_other _ _ _ _ (fun e => hk (by rw [e]))⟩ fun k hk h' => own_blk_ne h hg hne (hk.trans (by rw [← h']))

theorem q_zero : (Try.prog.info? 30).bind (·.zero) = some (.agg (qCells 0 0 0 (.slice none 0 0) (.slice none 0 0) (fun _ => 0) (fun _ _ => false))) := by kernel_rfl
theorem ans_zero : (Try.prog.info? 47).bind (·.zero) = some (.agg #[.int .i64 0, .int .i64 0, .int .i64 0, .int .i64 0]) := by kernel_rfl
/-- what holds ahead of a round of 'played' -/
structure PS (w : World) (p : PL) (ve va : Value) (wr : World) : Prop where
  res : ∃ cs, Blk wr w.heap.size 30 cs ∧ cs.size = 41
  q : ∃ lo cs, w.heap.size + 1 < lo ∧ Blk wr (w.heap.size + 1) 30 cs ∧ cs.size = 41 ∧ QIs wr lo wr.heap.size p.q (.agg cs)
  es : wr.ownsRow w.heap.size 45 6 ve p.es.length (qevCells p.es)
  ans : wr.ownsRow w.heap.size 47 4 va p.ans.length (qansCells p.ans)
  bel : Below w.heap.size w wr
theorem PS.lt {w wr : World} {p : PL} {ve va : Value} (h : PS w p ve va wr) : w.heap.size + 1 < wr.heap.size := by
  obtain ⟨lo, cs, _, hb, _⟩ := h.q
  exact hb.lt
theorem PS.below {w wr w' : World} {p : PL} {ve va : Value} (h : PS w p ve va wr) (hb : Below wr.heap.size wr w') : PS w p ve va w' := by
  have hlt := h.lt
  obtain ⟨⟨c1, r1, r2⟩, ⟨lo, c2, q0, q1, q2, q3⟩, es, as', bel⟩ := h
  exact ⟨⟨c1, r1.below hb r1.lt, r2⟩, ⟨lo, c2, q0, q1.below hb q1.lt, q2, (q3.below hb).more hb.size⟩, own_below es hb (Nat.le_refl _), own_below as' hb (Nat.le_refl _), bel.trans (hb.mono bel.size)⟩
def PlayedPost (w : World) (p : PL) (e : Ending) (w' : World) : Prop :=
  ∃ v ve va lo, e = .returned (.tuple #[v, ve, va, .bool true]) ∧ QIs w' lo w'.heap.size p.q v ∧ w'.ownsRow w.heap.size 45 6 ve p.es.length (qevCells p.es) ∧ w'.ownsRow w.heap.size 47 4 va p.ans.length (qansCells p.ans) ∧ Below w.heap.size w w' ∧ w.heap.size ≤ lo
theorem qcheck_is (q : QM) (v : Value) (lo B : Nat) (w : World) (hi : q.Inv) (hr : q.Room 0) (hv : QIs w lo B q v) (hB : B ≤ w.heap.size) : Calls Try.prog 18 #[v] w (Puts w (.int .i64 0)) := by
  obtain ⟨A1, c1, A2, c2, rfl, h1, h2, h3, h4, _⟩ := hv
  exact qcheck_ok q.ep q.nx q.gv q.rd q.ls q.t q.S A1 A2 _ _ c1 c2 B w (hi.ok hr) rfl rfl h3 h4 hB
theorem ev_info : (Try.prog.info? 45).map (fun i => (i.zero, i.size, i.bytes)) = some (some (.agg #[.int .i64 0, .int .i64 0, .int .i64 0, .int .i64 0, .int .i64 0, .int .i64 0]), 6, 48) := by kernel_rfl
theorem ans_info : (Try.prog.info? 47).map (fun i => (i.zero, i.size, i.bytes)) = some (some (.agg #[.int .i64 0, .int .i64 0, .int .i64 0, .int .i64 0]), 4, 32) := by kernel_rfl

set_option maxRecDepth 100000 in
set_option maxHeartbeats 4000000 in
theorem played_any (A : Option Addr) (n c most : Nat) (rows : List (List Int)) (w : World) (h : IsRows 4 32 w A n c rows) (hmost : most ≤ 90) :
    Calls Try.prog 15 #[.slice A n c, .int .i64 most] w (PlayedPost w (playN rows (min n most))) := by
  obtain ⟨hl, hnc, hcb, hr, hs⟩ := h
  obtain ⟨i0, hi0, hz0, hz1, hz2⟩ := info_parts ev_info
  obtain ⟨i9, hi9, hz9, hz91, hz92⟩ := info_parts ans_info
  have hT0 : ∀ W, Blk W w.heap.size 30 (qCells 0 0 0 (.slice none 0 0) (.slice none 0 0) (fun _ => 0) (fun _ _ => false)) → Blk W (w.heap.size + 1) 30 (qCells 0 0 0 (.slice none 0 0) (.slice none 0 0) (fun _ => 0) (fun _ _ => false)) → Below w.heap.size w W → PS w (playN rows 0) (.slice none 0 0) (.slice none 0 0) W :=
    fun W h1 h2 h3 => ⟨⟨_, h1, rfl⟩, ⟨w.heap.size + 2, _, by omega, h2, rfl, QIs.zero _ _ _⟩, World.ownsRow_nil _ _ _ _, World.ownsRow_nil _ _ _ _, h3⟩
  go_enter Try.func15, Try.ntmps15
  go_wp2_with fail
  go_loopw [9, 10, 11] (fun s9 s10 s11 wr => ∃ (k : Nat), k ≤ min n most ∧ s11 = .int .i64 k ∧ PS w (playN rows k) s9 s10 wr) (fun _ _ s11 _ => 90 - (intOf s11).toNat)
  case atStart =>
    have e2 := Blk.new (w.alloc (.cells (qCells 0 0 0 (.slice none 0 0) (.slice none 0 0) (fun _ => 0) (fun _ _ => false)) 30)) 30 (qCells 0 0 0 (.slice none 0 0) (.slice none 0 0) (fun _ => 0) (fun _ _ => false))
    rw [World.size_alloc] at e2
    exact ⟨0, by omega, rfl, hT0 _ ((Blk.new w 30 _).alloc _) e2 (((Below.refl _ _).alloc (Nat.le_refl _) _).alloc (by simp) _)⟩
  case round =>
    clear hT0
    obtain ⟨k, hk, rfl, H⟩ := hrel
    have hok := playN_ok rows k (by omega)
    by_cases hlt : k < min n most
    · have hkn : k < n := by omega
      obtain ⟨b, off, rfl, hb, g1, l1⟩ := row4q hl hs hr hkn
      have CE := Lib.hid (fun W => event_any _ _ _ _ W (l1 0) (l1 1) (l1 2) (l1 3))
      have HN := Lib.hid (show playN rows (k + 1) = (playN rows k).next (evOf ((rows.getD k []).getD 0 0) ((rows.getD k []).getD 1 0) ((rows.getD k []).getD 2 0) ((rows.getD k []).getD 3 0)) from rfl)
      have hchk := evOf_chk ((rows.getD k []).getD 0 0) ((rows.getD k []).getD 1 0) ((rows.getD k []).getD 2 0) ((rows.getD k []).getD 3 0)
      have q0 : w.cell? ⟨b, off + k * 4, none⟩ = _ := g1 0 (by omega)
      have q1 : w.cell? ⟨b, off + k * 4 + 1, none⟩ = _ := g1 1 (by omega)
      have q2 : w.cell? ⟨b, off + k * 4 + 2, none⟩ = _ := g1 2 (by omega)
      have q3 : w.cell? ⟨b, off + k * 4 + 3, none⟩ = _ := g1 3 (by omega)
      clear g1 l1
      have hcell : ∀ o v, w.cell? ⟨b, o, none⟩ = some v → wr.cell? ⟨b, o, none⟩ = some v := fun o v h => (H.bel.cell hb).trans h
      replace q0 := hcell _ _ q0
      replace q1 := hcell _ _ q1
      replace q2 := hcell _ _ q2
      replace q3 := hcell _ _ q3
      clear hcell
      generalize evOf ((rows.getD k []).getD 0 0) ((rows.getD k []).getD 1 0) ((rows.getD k []).getD 2 0) ((rows.getD k []).getD 3 0) = ev at *
      generalize (rows.getD k []).getD 0 0 = z0 at *
      generalize (rows.getD k []).getD 1 0 = z1 at *
      generalize (rows.getD k []).getD 2 0 = z2 at *
      generalize (rows.getD k []).getD 3 0 = z3 at *
      obtain ⟨p, hp⟩ : ∃ p, playN rows k = p := ⟨_, rfl⟩
      have hlk : p.es.length ≤ k := by rw [← hp]; exact hok.le
      have hll : p.es.length = p.ans.length := by rw [← hp]; exact hok.len
      have HI := Lib.hid (show p.q.Inv ∧ p.q.Room 1 from by rw [← hp]; exact ⟨hok.inv, hok.room.less (by omega)⟩)
      rw [hp] at H HN
      have HCK := Lib.hid hchk
      clear hp hok hchk
      have hI1 : (k : Int) < (n : Int) := by omega
      have hI2 : (k : Int) < (most : Int) := by omega
      have hI0 : (0 : Int) ≤ (k : Int) := by omega
      have hncI : (n : Int) ≤ (c : Int) := by omega
      have i1 : IntKind.i64.wrap ((k : Int) + 1) = (k : Int) + 1 := IntWalk.i64_in _ (by omega)
      obtain ⟨x0, x1, x2, x3, x4, x5⟩ := ev
      have hz := H.lt
      go_wp2_with fail
      refine (CE.out _).mono ?_
      rintro e w1 ⟨rfl, b1⟩
      unfold Ev.val
      have H1 := H.below b1
      have H2 := H1.below ((Below.refl _ _).alloc (Nat.le_refl _) (.cells #[.int .i64 x0, .int .i64 x1, .int .i64 x2, .int .i64 x3, .int .i64 x4, .int .i64 x5] 45))
      have D2 := Blk.new w1 45 #[.int .i64 x0, .int .i64 x1, .int .i64 x2, .int .i64 x3, .int .i64 x4, .int .i64 x5]
      have hz1' := H1.lt
      clear q0 q1 q2 q3 H H1 b1 CE
      go_upto_region 8 with fail
      obtain ⟨ge, hge⟩ : ∃ ge, ge = w1.heap.size := ⟨_, rfl⟩
      rw [← hge] at D2 ⊢
      have hge2 : w.heap.size + 1 < ge := by omega
      generalize w1.alloc (.cells #[.int .i64 x0, .int .i64 x1, .int .i64 x2, .int .i64 x3, .int .i64 x4, .int .i64 x5] 45) = w2 at *
      clear hge hz1'
      obtain ⟨lo, cs, _, Q2, h41, hq⟩ := H2.q
      have CD := Lib.hid (do_any p.q ⟨x0, x1, x2, x3, x4, x5⟩ (.agg cs) lo w2.heap.size w2 HI.out.1 HI.out.2 HCK.out hq (Nat.le_refl _))
      have H41 := Lib.hid h41
      clear hq h41
      have d0 := D2.cell 0
      have d1 := D2.cell 1
      have d2 := D2.cell 2
      have d3 := D2.cell 3
      have d4 := D2.cell 4
      have d5 := D2.cell 5
      have hdz := D2.lt
      obtain ⟨r, hr'⟩ : ∃ r, p.q.step ⟨x0, x1, x2, x3, x4, x5⟩ = r := ⟨_, rfl⟩
      have HNX := HN.out
      unfold PL.next at HNX
      rw [hr'] at CD HNX
      obtain ⟨q', ⟨a0, a1, a2, a3⟩, chg⟩ := r
      dsimp only at HNX CD
      have HN' := Lib.hid HNX
      clear hr' HN HNX
      go_wp2_with (refine wpList_load_row rfl 30 (.tmp 8) rfl (w.heap.size + 1) rfl 30 cs (0, 0) _ Q2 q_under rfl (by rw [q_size, H41.out]) ?_)
      refine (CD.out).mono ?_
      rintro e w3 ⟨v', rfl, hv', b3⟩
      obtain ⟨cs', rfl, h41', hall'⟩ := hv'.agg
      unfold QA.val ansV
      have H42 := Lib.hid h41'
      have HALL := Lib.hid hall'
      have H3 := H2.below b3
      have D3 := D2.below b3 hdz
      have hz3 := b3.size
      have hl3 := H3.lt
      clear h41' hall' d0 d1 d2 d3 d4 d5 CD Q2
      go_upto_region 9 with (first
        | (refine wpList_alloc_row rfl 30 rfl _ q_zero ?_; intro w4 E4 g4 z4)
        | (refine wpList_alloc_row rfl 47 rfl _ ans_zero ?_; intro w5 F5 g5 z5)
        | (refine wpList_store_rowQ rfl 30 (.tmp 13) (.tmp 37) rfl w3.heap.size cs' rfl rfl 30 _ (E4.grown g5 (by simp)) (by rw [q_size, H42.out]) (by rw [H42.out]; rfl) HALL.out ?_; intro w6 E6 g6 z6)
        | (refine wpList_store_rowQ rfl 47 (.tmp 14) (.tmp 38) rfl w4.heap.size #[.int .i64 a0, .int .i64 a1, .int .i64 a2, .int .i64 a3] rfl rfl 47 _ (F5.grown g6 (by simp; omega)) (by kernel_rfl) rfl (by kernel_rfl) ?_; intro w7 F7 g7 z7))
      have b37 : Below w3.heap.size w3 w7 := ((((Below.refl _ _).grown g4 (Nat.le_refl _) (fun _ h => by cases h)).grown g5 (by omega) (fun _ h => by cases h)).grown g6 (by omega) (fun j h => by cases h; omega)).grown g7 (by omega) (fun j h => by cases h; omega)
      have E7 := E6.grown g7 (by simp; omega)
      have D7 := D3.below b37 D3.lt
      have H7 := H3.below b37
      have hv7 := hv'.below b37
      obtain ⟨gq, hgq⟩ : ∃ gq, gq = w3.heap.size := ⟨_, rfl⟩
      have hsz7 : w7.heap.size = gq + 2 := by omega
      have hwq : w2.heap.size ≤ gq := by omega
      have hve := Lib.hid (fun x hx => (World.ownsRow.lt H2.es x hx).2)
      have hva := Lib.hid (fun x hx => (World.ownsRow.lt H2.ans x hx).2)
      have hl2 := H2.lt
      rw [z4] at F7
      rw [← hgq] at E7 F7 hv7 ⊢
      clear b3 hv' D3 E4 F5 E6 g4 g5 g6 g7 z4 z5 z6 z7 H2 D2 H3 b37 hl3 hz3 hgq
      obtain ⟨lo7, cs7, _, Q7, h417, _⟩ := H7.q
      have H41 := Lib.hid h417
      have nee := own_blk_ne H7.es Q7 (by decide)
      have nea := own_blk_ne H7.ans Q7 (by decide)
      clear h417
      go_upto_region 12 with (first
        | refine wpList_load_row rfl 30 (.tmp 13) rfl gq rfl 30 cs' (0, 0) _ E7 q_under rfl (by rw [q_size, H42.out]) ?_
        | (refine wpList_store_rowQ rfl 30 (.tmp 8) (.tmp 46) rfl (w.heap.size + 1) cs' rfl rfl 30 _ Q7 (by rw [q_size, H42.out]) (by rw [H42.out, H41.out]) HALL.out ?_; intro w8 Q8 g8 z8))
      obtain ⟨cr, R7, hcr⟩ := H7.res
      have R8 := R7.grown g8 (by simp)
      have F8 := F7.grown g8 (by simp; omega)
      have D8 := D7.grown g8 (by simp; omega)
      have es8 := own_grownQ H7.es g8 (fun j h1 h2 => nee (h1.trans h2.symm))
      have ans8 := own_grownQ H7.ans g8 (fun j h1 h2 => nea (h1.trans h2.symm))
      have bel8 := H7.bel.grown g8 (by have := H7.lt; omega) (fun j h => by cases h; omega)
      have hv8 := hv7.grown g8 (by omega) (fun j h => by cases h; omega)
      have hz8 : w8.heap.size = gq + 2 := by omega
      clear hv7 E7 F7 D7 Q7 R7 H7 nee nea g8 z8 H41
      cases chg
      · go_wp2_with fail
        go_roundw
        case rel => exact ⟨k + 1, by omega, by go_num, by rw [HN'.out]; exact ⟨⟨cr, R8, hcr⟩, ⟨_, cs', hl2, Q8, H42.out, hv8.more (by omega)⟩, es8, ans8, bel8⟩⟩
        case measure => simp [intOf]; omega
      · have d0 := D8.cell 0
        have d1 := D8.cell 1
        have d2 := D8.cell 2
        have d3 := D8.cell 3
        have d4 := D8.cell 4
        have d5 := D8.cell 5
        have hdz := D8.lt
        have HZ8 := Lib.hid hz8
        clear hz8
        have o9 := es8.alloc (.cells #[.int .i64 x0, .int .i64 x1, .int .i64 x2, .int .i64 x3, .int .i64 x4, .int .i64 x5] 45)
        have r9 := reads_oneQ w8 45 #[.int .i64 x0, .int .i64 x1, .int .i64 x2, .int .i64 x3, .int .i64 x4, .int .i64 x5] 6 rfl
        go_upto_region 14 with (at_builtin; refine wpList_append_any _ rfl (.tmp 48) (.tmp 50) _ rfl w.heap.size 45 i0 _ 6 48 Try.underlying31 hi0 hz0 hz1 hz2 rfl (by omega) u9 p.es.length (qevCells p.es) rfl o9 _ _ 1 1 _ rfl r9 (by intro u hu; simp at hu; rcases hu with h | h | h | h | h | h <;> subst h <;> rfl) (by simp only [maxLen]; omega) (by omega) (by have := HZ8.out; simp; omega) ?_; intro v9 w9 o9' g9 at9)
        have neR := own_blk_ne o9 (R8.alloc (.cells #[.int .i64 x0, .int .i64 x1, .int .i64 x2, .int .i64 x3, .int .i64 x4, .int .i64 x5] 45)) (by decide)
        have neQ := own_blk_ne o9 (Q8.alloc (.cells #[.int .i64 x0, .int .i64 x1, .int .i64 x2, .int .i64 x3, .int .i64 x4, .int .i64 x5] 45)) (by decide)
        have neF := own_blk_ne o9 (F8.alloc (.cells #[.int .i64 x0, .int .i64 x1, .int .i64 x2, .int .i64 x3, .int .i64 x4, .int .i64 x5] 45)) (by decide)
        have R9 := (R8.alloc (.cells #[.int .i64 x0, .int .i64 x1, .int .i64 x2, .int .i64 x3, .int .i64 x4, .int .i64 x5] 45)).grown g9 (fun h => neR h.symm)
        have Q9 := (Q8.alloc (.cells #[.int .i64 x0, .int .i64 x1, .int .i64 x2, .int .i64 x3, .int .i64 x4, .int .i64 x5] 45)).grown g9 (fun h => neQ h.symm)
        have F9 := (F8.alloc (.cells #[.int .i64 x0, .int .i64 x1, .int .i64 x2, .int .i64 x3, .int .i64 x4, .int .i64 x5] 45)).grown g9 (fun h => neF h.symm)
        have ans9 := own_grownQ (ans8.alloc (.cells #[.int .i64 x0, .int .i64 x1, .int .i64 x2, .int .i64 x3, .int .i64 x4, .int .i64 x5] 45)) g9 (own_row_neQ (ans8.alloc _) o9 (by decide))
        have hv9 := (hv8.alloc (by have := HZ8.out; omega) (.cells #[.int .i64 x0, .int .i64 x1, .int .i64 x2, .int .i64 x3, .int .i64 x4, .int .i64 x5] 45)).grown g9 (by have := HZ8.out; simp; omega) (fun j hj => .inl (hve.out j hj))
        have bel9 := (bel8.alloc (by have := HZ8.out; omega) (.cells #[.int .i64 x0, .int .i64 x1, .int .i64 x2, .int .i64 x3, .int .i64 x4, .int .i64 x5] 45)).grown g9 (by have := HZ8.out; simp; omega) (own_blk_geQ o9)
        have hgz9 := g9.size
        rw [World.size_alloc] at hgz9
        rw [show (#[Value.int .i64 x0, .int .i64 x1, .int .i64 x2, .int .i64 x3, .int .i64 x4, .int .i64 x5] : Array Value).toList = [.int .i64 x0, .int .i64 x1, .int .i64 x2, .int .i64 x3, .int .i64 x4, .int .i64 x5] from rfl, ← qevCells_snoc] at o9'
        clear neR neQ neF R8 Q8 F8 D8 es8 ans8 hv8 bel8 o9 r9 g9 at9 d0 d1 d2 d3 d4 d5 hdz
        have f0 := F9.cell 0
        have f1 := F9.cell 1
        have f2 := F9.cell 2
        have f3 := F9.cell 3
        have oA := ans9.alloc (.cells #[.int .i64 a0, .int .i64 a1, .int .i64 a2, .int .i64 a3] 47)
        have rA := reads_oneQ w9 47 #[.int .i64 a0, .int .i64 a1, .int .i64 a2, .int .i64 a3] 4 rfl
        have hb9 := bel9.size
        go_wp2_with (at_builtin; refine wpList_append_any _ rfl (.tmp 52) (.tmp 54) _ rfl w.heap.size 47 i9 _ 4 32 Try.underlying32 hi9 hz9 hz91 hz92 rfl (by omega) u10 p.ans.length (qansCells p.ans) rfl oA _ _ 1 1 _ rfl rA (by intro u hu; simp at hu; rcases hu with h | h | h | h <;> subst h <;> rfl) (by simp only [maxLen]; omega) (by omega) (by simp; omega) ?_; intro v10 w10 o10 g10 at10)
        have neR := own_blk_ne oA (R9.alloc (.cells #[.int .i64 a0, .int .i64 a1, .int .i64 a2, .int .i64 a3] 47)) (by decide)
        have neQ := own_blk_ne oA (Q9.alloc (.cells #[.int .i64 a0, .int .i64 a1, .int .i64 a2, .int .i64 a3] 47)) (by decide)
        have R10 := (R9.alloc (.cells #[.int .i64 a0, .int .i64 a1, .int .i64 a2, .int .i64 a3] 47)).grown g10 (fun h => neR h.symm)
        have Q10 := (Q9.alloc (.cells #[.int .i64 a0, .int .i64 a1, .int .i64 a2, .int .i64 a3] 47)).grown g10 (fun h => neQ h.symm)
        have es10 := own_grownQ (o9'.alloc (.cells #[.int .i64 a0, .int .i64 a1, .int .i64 a2, .int .i64 a3] 47)) g10 (own_row_neQ (o9'.alloc _) oA (by decide))
        have hv10 := (hv9.alloc (by have := HZ8.out; omega) (.cells #[.int .i64 a0, .int .i64 a1, .int .i64 a2, .int .i64 a3] 47)).grown g10 (by have := HZ8.out; simp; omega) (fun j hj => .inl (hva.out j hj))
        have bel10 := (bel9.alloc (by omega) (.cells #[.int .i64 a0, .int .i64 a1, .int .i64 a2, .int .i64 a3] 47)).grown g10 (by simp; omega) (own_blk_geQ oA)
        have hgz10 := g10.size
        rw [World.size_alloc] at hgz10
        rw [show (#[Value.int .i64 a0, .int .i64 a1, .int .i64 a2, .int .i64 a3] : Array Value).toList = [.int .i64 a0, .int .i64 a1, .int .i64 a2, .int .i64 a3] from rfl, ← qansCells_snoc] at o10
        have hzq := HZ8.out
        clear neR neQ R9 Q9 F9 o9' ans9 hv9 bel9 oA rA g10 at10 f0 f1 f2 f3
        go_roundw
        case rel => exact ⟨k + 1, by omega, by go_num, by rw [HN'.out]; exact ⟨⟨cr, R10, hcr⟩, ⟨_, cs', hl2, Q10, H42.out, hv10.more (by omega)⟩, by simpa using es10, by simpa using o10, bel10⟩⟩
        case measure => simp [intOf]; omega
    · obtain rfl : k = min n most := by omega
      have HC := Lib.hid (show ∀ W v lo, QIs W lo W.heap.size (playN rows (min n most)).q v → Calls Try.prog 18 #[v] W (Puts W (.int .i64 0)) from fun W v lo hv => qcheck_is _ v lo W.heap.size W hok.inv (hok.room.less (Nat.zero_le _)) hv (Nat.le_refl _))
      have hc : ¬ ((min n most : Nat) : Int) < (n : Int) ∨ (((min n most : Nat) : Int) < (n : Int) ∧ ¬ ((min n most : Nat) : Int) < (most : Int)) := by omega
      clear hr hs hok
      generalize playN rows (min n most) = p at *
      generalize min n most = k at *
      obtain ⟨cr, R, hcr⟩ := H.res
      obtain ⟨lo, cs, hlo, Q, h41, hq⟩ := H.q
      obtain ⟨cs', hcs, _, hall⟩ := hq.agg
      cases hcs
      have hlt2 := H.lt
      have H41 := Lib.hid h41
      have HALL := Lib.hid hall
      have HCR := Lib.hid hcr
      clear h41 hall hcr
      clear hlt hk
      rcases hc with hI1 | ⟨hI1, hI2⟩
      all_goals
        go_upto_region 15 with fail
        have b0 : Below wr.heap.size wr wr.drew := (Below.refl _ _).drew
        refine wp_region_held_drew (S := fun W => Blk W (w.heap.size + 1) 30 cs) (by kernel_rfl) Q.drew (fun hS0 => ?_)
        refine takeH (i := 0) rfl (by kernel_rfl) (by kernel_rfl) (by kernel_rfl) (fun _ _ _ h => h) (yieldsIf_load_row (by rfl) 30 (.tmp 8) rfl (w.heap.size + 1) rfl 30 cs _ (fun W hW => hW) q_under rfl (by rw [q_size, H41.out])) hS0 ?_
        simp only [Act.put, List.setIfInBounds_toArray, List.set_cons_zero, List.set_cons_succ]
        refine takeH (i := 1) (v := u9) rfl (by kernel_rfl) (by kernel_rfl) (by kernel_rfl) (fun _ _ _ h => h) (Or.inl ⟨by rfl, fun W _ => by go_simp⟩) hS0 ?_
        simp only [Act.put, List.setIfInBounds_toArray, List.set_cons_zero, List.set_cons_succ]
        refine takeH (i := 2) (v := u10) rfl (by kernel_rfl) (by kernel_rfl) (by kernel_rfl) (fun _ _ _ h => h) (Or.inl ⟨by rfl, fun W _ => by go_simp⟩) hS0 ?_
        simp only [Act.put, List.setIfInBounds_toArray, List.set_cons_zero, List.set_cons_succ]
        refine takeH (i := 3) rfl (by kernel_rfl) (by kernel_rfl) (by kernel_rfl) (fun _ _ _ h => h) (yieldsIf_load_row (by rfl) 30 (.tmp 8) rfl (w.heap.size + 1) rfl 30 cs _ (fun W hW => hW) q_under rfl (by rw [q_size, H41.out])) hS0 ?_
        simp only [Act.put, List.setIfInBounds_toArray, List.set_cons_zero, List.set_cons_succ]
        refine oneH (i := 4) rfl (by kernel_rfl) rfl (fun K hK => ?_)
        have HK := Lib.hid hK
        clear hK
        have CC := Lib.hid (HC.out wr.drew (.agg cs) lo hq)
        clear HC
        go_wp2_with fail
        refine (CC.out).mono ?_
        rintro e w3 ⟨rfl, b3⟩
        have b3' : Below wr.heap.size wr w3 := b0.trans b3
        have Q3 := Q.below b3' Q.lt
        have R3 := R.below b3' R.lt
        have hq3 := hq.below b3'
        have H3 := H.below b3'
        have hz3 := b3'.size
        refine HK.out _ _ Q3 (fun hS0 => ?_)
        try simp only [Act.put, List.setIfInBounds_toArray, List.set_cons_zero, List.set_cons_succ]
        refine takeH (i := 5) (v := .bool true) rfl (by kernel_rfl) (by kernel_rfl) (by kernel_rfl) (fun _ _ _ h => h) (Or.inl ⟨by rfl, fun W _ => by go_simp⟩) hS0 ?_
        simp only [Act.put, List.setIfInBounds_toArray, List.set_cons_zero, List.set_cons_succ]
        refine oneH (i := 6) rfl (by kernel_rfl) rfl (fun K hK => ?_)
        refine wp_store_rowQ 30 (.tmp 4) (.tmp 56) rfl w.heap.size cs rfl rfl 30 cr R3 (by rw [q_size, H41.out]) (by rw [HCR.out, H41.out]) HALL.out (fun w4 R4 g4 z4 => ?_)
        refine hK _ _ (Q3.grown g4 (by simp)) (fun hS0 => ?_)
        clear hK K
        try simp only [Act.put]
        refine oneH (i := 7) rfl (by kernel_rfl) rfl (fun K hK => ?_)
        go_simp
        refine hK _ _ hS0 (fun hS0 => ?_)
        clear hK K
        refine oneH (i := 8) rfl (by kernel_rfl) rfl (fun K hK => ?_)
        go_simp
        refine hK _ _ hS0 (fun hS0 => ?_)
        clear hK K
        refine oneH (i := 9) rfl (by kernel_rfl) rfl (fun K hK => ?_)
        go_simp
        refine hK _ _ hS0 (fun hS0 => ?_)
        clear hK K
        refine wpAnyH_done (by kernel_rfl) ?_ _
        have neE := own_blk_ne H3.es R3 (by decide)
        have neA := own_blk_ne H3.ans R3 (by decide)
        have es4 := own_grownQ H3.es g4 (fun j h1 h2 => neE (h1.trans h2.symm))
        have ans4 := own_grownQ H3.ans g4 (fun j h1 h2 => neA (h1.trans h2.symm))
        have bel4 := H3.bel.grown g4 (by omega) (fun j h => by cases h; omega)
        have l4 := run_loadVar_row (P := Try.prog) w4 w.heap.size 30 30 cs (0, 0) _ R4 q_under rfl (by rw [q_size, H41.out])
        have hfin := Lib.hid (show PlayedPost w p (.returned (.tuple #[.agg cs, u9, u10, .bool true])) w4 from ⟨_, _, _, lo, rfl, (hq3.grown g4 (by omega) (fun j h => by cases h; omega)).more (by omega), es4, ans4, bel4, by omega⟩)
        clear neE neA es4 ans4 bel4 R4 g4 z4 hq3 H3 R3 Q3 b3' b3 hz3 R Q H hq
        go_wp2_with fail
        exact bodyPost_ret (v := .tuple #[.agg cs, u9, u10, .bool true]) (by simp [results, Try.results15, asAddr, l4]) rfl hfin.out

end Go.Proofs.Ytkolmpeghnkjkaa
