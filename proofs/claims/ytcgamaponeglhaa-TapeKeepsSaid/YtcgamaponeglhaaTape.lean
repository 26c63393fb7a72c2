/- Tapes: slices.Clone, 'open'. -/
import Derived.Test.YtcgamaponeglhaaEnc
import Derived.Test.YtcgamaponeglhaaSum
import Derived.Test.YtcgamaponeglhaaPut3
import Derived.Deep.RegionHeld3
import Derived.Deep.DeepCutAuto
namespace Go.Proofs.Ytcgamaponeglhaa
open Go.RowKit

/-- a copy, in new memory -/
def ClonePost (w : World) (n : Nat) (d : List Int) (ed : Ending) (w' : World) : Prop := Gives w 5 1 n (d.map (Value.int .u8)) ed w'

set_option maxHeartbeats 400000 in
theorem clone_any (A : Option Addr) (n c B : Nat) (d : List Int) (w : World) (h : Reads w B 1 A n (d.map (Value.int .u8))) (hn : n ≤ c) (hc : n ≤ 140737488351232) (hB : B ≤ w.heap.size) :
    Calls Try.prog 38 #[.slice A n c] w (ClonePost w n d) := by
  obtain ⟨i0, hi0, hz0, hz1, hz2⟩ := info_parts u8_info
  have hnil := fun (W : World) => Lib.run_eql_slice_nil (P := Try.prog) W 31 5 A n c 0 0 Try.underlying31
  have hx := one_nums .u8 d
  rcases A with _ | ad
  · have h0 : n = 0 := by
      rcases Nat.eq_zero_or_pos n with h0 | h0
      · exact h0
      · obtain ⟨_, h1, _⟩ := h.2 h0; cases h1
    subst h0
    have hd : d = [] := by simpa using h.1
    subst hd
    have FIN := Lib.hid (show ClonePost w 0 [] (.returned (.slice none 0 0)) w from ⟨_, rfl, World.ownsRow_nil _ _ _ _, Below.refl _ _⟩)
    generalize ClonePost w 0 [] = POST at *
    clear h hx
    go_enter Try.func38, Try.ntmps38
    go_wp2
    exact FIN.out
  · have FIN : ∀ v w1 w2, Below w.heap.size w w1 → w2.ownsRow w.heap.size 5 1 v (0 + n) ([] ++ d.map (Value.int .u8)) → w1.grownBy w2 (some w.heap.size) → ClonePost w n d (.returned v) w2 := fun v w1 w2 hb ho hg => by
      rw [Nat.zero_add, List.nil_append] at ho
      exact ⟨v, rfl, ho, hb.grown hg hb.size (fun k hk => by cases hk; exact Nat.le_refl _)⟩
    have FH := Lib.hid FIN
    clear FIN
    generalize ClonePost w n d = POST at *
    have h1 := h.alloc hB (.cells #[] 5)
    have o0 := new_row w 5 [] #[] rfl (by simp)
    have b0 := (Below.refl w.heap.size w).alloc (Nat.le_refl _) (.cells #[] 5)
    clear h
    go_enter Try.func38, Try.ntmps38
    go_wp2_with (at_builtin; refine wpList_append_any _ rfl _ _ _ rfl w.heap.size 5 i0 _ 1 1 Try.underlying31 hi0 hz0 hz1 hz2 rfl (by omega) (.slice (some ⟨w.heap.size, 0, none⟩) 0 0) 0 [] rfl o0 B (some ad) n c (d.map (Value.int .u8)) rfl h1 hx (by simp only [maxLen]; omega) (by omega) (by simp) ?_; intro v1 w1 o1 g1 at1)
    exact FH.out _ _ _ b0 o1 g1

/-- a tape that was opened: its bytes in new memory -/
def OpenPost (w : World) (n : Nat) (d : List Int) (s : Int) (e : Ending) (w' : World) : Prop :=
  ∃ v, e = .returned (.tuple #[.agg #[v, .int .i64 s], .bool true]) ∧ w'.ownsRow w.heap.size 5 1 v n (d.map (Value.int .u8)) ∧ Below w.heap.size w w'

set_option maxHeartbeats 800000 in
theorem open_ok (A : Option Addr) (n c B : Nat) (d : List Int) (s : Int) (w : World) (h : Reads w B 1 A n (d.map (Value.int .u8))) (hn : n ≤ c) (hc : n ≤ 100000) (hB : B ≤ w.heap.size) (h0 : 0 ≤ s) (h1 : s ≤ n) :
    Calls Try.prog 32 #[.agg #[.slice A n c, .int .i64 s]] w (OpenPost w n d s) := by
  have CC := Lib.hid (fun (W : World) (hr : Reads W B 1 A n (d.map (Value.int .u8))) (hb : B ≤ W.heap.size) => clone_any A n c B d W hr hn (by omega) hb)
  have hI : ¬ (100000 : Int) < (n : Int) := by omega
  have hbel := ((Below.refl w.heap.size w).alloc (Nat.le_refl _) (.cells #[.slice A n c, .int .i64 s] 45)).alloc (by simp) (.cells #[.slice none 0 0, .int .i64 0] 45)
  have hr := (h.alloc hB (.cells #[.slice A n c, .int .i64 s] 45)).alloc (by simp; omega) (.cells #[.slice none 0 0, .int .i64 0] 45)
  have E1 := (Blk.new w 45 #[.slice A n c, .int .i64 s]).alloc (.cells #[.slice none 0 0, .int .i64 0] 45)
  have E2 := Blk.new (w.alloc (.cells #[.slice A n c, .int .i64 s] 45)) 45 #[.slice none 0 0, .int .i64 0]
  rw [World.size_alloc] at E2
  clear h
  go_enter Try.func32, Try.ntmps32
  go_wp2_with fail
  obtain ⟨g, hg⟩ : ∃ g, g = w.heap.size := ⟨_, rfl⟩
  generalize ((w.alloc (.cells #[.slice A n c, .int .i64 s] 45)).alloc (.cells #[.slice none 0 0, .int .i64 0] 45)) = w0 at *
  have c0 := E1.cell 0
  have c1 := E1.cell 1
  have z0 := hbel.size
  have z2 := E2.lt
  rw [← hg] at E1 E2 hbel z0 z2 c0 c1 ⊢
  have HG := Lib.hid hg
  have hB0 : B ≤ w0.heap.size := by omega
  clear hg
  go_region_held3 (fun W => W.cell? ⟨g, 0, none⟩ = some (.slice A n c) ∧ W.cell? ⟨g, 1, none⟩ = some (.int .i64 s)) (go_keep)
    ((go_at_call 38; refine (CC.out _ hr.drew hB0).mono ?_; rintro e w1 ⟨v, rfl, o1, b1⟩; obtain ⟨A2, c2, rfl, hc2, hm2⟩ := own_shape o1; have F1 : Blk w1 g 45 #[.slice A n c, .int .i64 s] := E1.drew.below b1 E1.lt; have F2 : Blk w1 (g + 1) 45 #[.slice none 0 0, .int .i64 0] := E2.drew.below b1 z2; have bel1 : Below g w w1 := hbel.drew.trans (b1.mono z0); have f2 := F2.frozen; have d0 := F1.cell 0; have d1 := F1.cell 1; have d2 := F2.cell 0; have d3 := F2.cell 1; have z3 := F2.lt; clear b1))
  all_goals
    go_wp2
    have hne : (Value.slice A2 n c2).ownBlock ≠ some (g + 1) := fun hk => by have := own_block_ge o1 _ hk; simp at this; omega
    have o2 := own_base (base' := g) (ownsRow_setCell_other (a := ⟨g + 1, 1, none⟩) (ownsRow_setCell_other (a := ⟨g + 1, 0, none⟩) o1 hne (.slice A2 n c2)) hne (.int .i64 s)) (by simp; omega)
    have bel2 := (bel1.setCell (p := ⟨g + 1, 0, none⟩) (by simp) (.slice A2 n c2)).setCell (p := ⟨g + 1, 1, none⟩) (by simp) (.int .i64 s)
    have FIN : OpenPost w n d s (.returned (.tuple #[.agg #[.slice A2 n c2, .int .i64 s], .bool true])) ((w1.setCell ⟨g + 1, 0, none⟩ (.slice A2 n c2)).setCell ⟨g + 1, 1, none⟩ (.int .i64 s)) := by
      have hg := HG.out
      subst hg
      exact ⟨_, rfl, o2, bel2⟩
    exact bodyPost_ret (v := .tuple #[.agg #[.slice A2 n c2, .int .i64 s], .bool true]) (by simp [results, Try.results32, go_sem, *]) rfl FIN

/-- a frame of a payload -/
def frameHead (p : List Int) : List Int := [(p.length : Int) / 256, (p.length : Int) % 256] ++ p
def frameOf (p : List Int) : List Int := frameHead p ++ four (sumOf (frameHead p))
theorem frameHead_length (p : List Int) : (frameHead p).length = p.length + 2 := by simp [frameHead]
theorem frameOf_length (p : List Int) : (frameOf p).length = p.length + 6 := by simp [frameOf, frameHead, four]
theorem frameHead_bd (p : List Int) (hl : p.length ≤ 1000) (hz : ∀ z ∈ p, 0 ≤ z ∧ z ≤ 255) : ∀ z ∈ frameHead p, 0 ≤ z ∧ z ≤ 255 := by
  intro z h
  simp only [frameHead, List.cons_append, List.nil_append, List.mem_cons] at h
  rcases h with h | h | h
  · omega
  · omega
  · exact hz z h
theorem frameOf_bd (p : List Int) (hl : p.length ≤ 1000) (hz : ∀ z ∈ p, 0 ≤ z ∧ z ≤ 255) : ∀ z ∈ frameOf p, 0 ≤ z ∧ z ≤ 255 := by
  intro z h
  rcases List.mem_append.1 h with h | h
  · exact frameHead_bd p hl hz z h
  · have := sumOf_bd (frameHead p)
    simp only [four, List.mem_cons, List.not_mem_nil, or_false] at h
    omega

def FramePost (w : World) (p : List Int) (e : Ending) (w' : World) : Prop := Gives w 5 1 (p.length + 6) ((frameOf p).map (Value.int .u8)) e w'

set_option maxHeartbeats 800000 in
theorem frame_any (A : Option Addr) (n c B : Nat) (p : List Int) (w : World) (h : Reads w B 1 A n (p.map (Value.int .u8))) (hc : n ≤ 1000) (hB : B ≤ w.heap.size) (hz : ∀ z ∈ p, 0 ≤ z ∧ z ≤ 255) :
    Calls Try.prog 33 #[.slice A n c] w (FramePost w p) := by
  obtain ⟨i0, hi0, hz0, hz1, hz2⟩ := info_parts u8_info
  have hl : p.length = n := by simpa using h.1
  have hx := one_nums .u8 p
  have h1 := h.alloc hB (.cells #[.int .u8 ((n : Int) / 256), .int .u8 ((n : Int) % 256)] 5)
  have o0 := new_row w 5 [.int .u8 ((n : Int) / 256), .int .u8 ((n : Int) % 256)] #[.int .u8 ((n : Int) / 256), .int .u8 ((n : Int) % 256)] rfl (by simp [maxLen])
  have b0 := (Below.refl w.heap.size w).alloc (Nat.le_refl _) (.cells #[.int .u8 ((n : Int) / 256), .int .u8 ((n : Int) % 256)] 5)
  have HH := Lib.hid (show [.int .u8 ((n : Int) / 256), .int .u8 ((n : Int) % 256)] ++ p.map (Value.int .u8) = (frameHead p).map (Value.int .u8) by simp [frameHead, hl])
  have HF := Lib.hid (show frameOf p = frameHead p ++ four (sumOf (frameHead p)) from rfl)
  have CS := Lib.hid (fun A n c B W hr hm => sum_any A n c B (frameHead p) W hr (frameHead_bd p (by omega) hz) hm)
  have HP := Lib.hid hl
  have hb4 := sumOf_bd (frameHead p)
  obtain ⟨x, hxs⟩ : ∃ x, sumOf (frameHead p) = x := ⟨_, rfl⟩
  rw [hxs] at HF CS hb4
  clear hz h hl hxs
  have hx4 := one_nums .u8 (four x)
  go_enter Try.func33, Try.ntmps33
  go_wp2_with (at_builtin; refine wpList_append_any _ rfl (.tmp 12) (.tmp 13) _ rfl w.heap.size 5 i0 _ 1 1 Try.underlying31 hi0 hz0 hz1 hz2 rfl (by omega) (.slice (some ⟨w.heap.size, 0, none⟩) 2 2) 2 [.int .u8 ((n : Int) / 256), .int .u8 ((n : Int) % 256)] rfl o0 B A n c (p.map (Value.int .u8)) rfl h1 hx (by simp only [maxLen]; omega) (by omega) (by simp) ?_; intro v1 w1 o1 g1 at1)
  rw [HH.out] at o1
  have b1 : Below w.heap.size w w1 := b0.grown g1 (by simp) (own_block_ge o0)
  obtain ⟨A1, c1, rfl, hc1, hm1⟩ := own_shape o1
  have r1 := Reads.of_own o1
  refine (CS.out A1 (2 + n) c1 _ w1 r1 (by omega)).mono ?_
  clear r1 CS
  rintro e w2 ⟨rfl, rfl⟩
  have FIN : ∀ v3 w3, w3.ownsRow w.heap.size 5 1 v3 (2 + n + 4) ((frameHead p).map (Value.int .u8) ++ (four x).map (Value.int .u8)) → (w1.alloc (.cells #[.int .u8 (x / 16777216), .int .u8 (x / 65536 % 256), .int .u8 (x / 256 % 256), .int .u8 (x % 256)] 5)).grownBy w3 (Value.slice A1 (2 + n) c1).ownBlock → FramePost w p (.returned v3) w3 := fun v3 w3 ho hg => by
    refine ⟨v3, rfl, ?_, (b1.alloc b1.size _).grown hg (Nat.le_trans b1.size (by simp)) (own_block_ge o1)⟩
    rw [HF.out, List.map_append, HP.out, show n + 6 = 2 + n + 4 by omega]
    exact ho
  have FH := Lib.hid FIN
  clear FIN HF HP HH o0 g1 at1 h1 hx
  generalize FramePost w p = POST at *
  have hbs := b1.size
  generalize (frameHead p).map (Value.int .u8) = xs at *
  go_wp2_with (at_builtin; refine wpList_append_any _ rfl (.tmp 17) (.tmp 29) _ rfl w.heap.size 5 i0 _ 1 1 Try.underlying31 hi0 hz0 hz1 hz2 rfl (by omega) (.slice A1 (2 + n) c1) (2 + n) xs rfl (o1.alloc _) (w1.alloc (.cells #[.int .u8 (x / 16777216), .int .u8 (x / 65536 % 256), .int .u8 (x / 256 % 256), .int .u8 (x % 256)] 5)).heap.size (some ⟨w1.heap.size, 0, none⟩) 4 4 ((four x).map (Value.int .u8)) rfl (Reads.of_own (new_row w1 5 ((four x).map (Value.int .u8)) _ rfl (by simp [four, maxLen]))) hx4 (by simp only [maxLen]; omega) (by omega) (Nat.le_trans hbs (by simp)) ?_; intro v3 w3 o3 g3 at3)
  exact FH.out _ _ o3 g3

theorem recBytes_le (r : Rc) : 16 ≤ (recBytes r).length ∧ (recBytes r).length ≤ 40 := by rw [recBytes_length]; split <;> omega

/-- a record was written behind all that was there -/
def WritePost (w : World) (d : List Int) (s : Int) (r : Rc) (e : Ending) (w' : World) : Prop :=
  ∃ v, e = .returned (.tuple #[.agg #[v, .int .i64 s], .int .i64 0]) ∧ w'.ownsRow w.heap.size 5 1 v (d.length + ((recBytes r).length + 6)) ((d ++ frameOf (recBytes r)).map (Value.int .u8)) ∧ Below w.heap.size w w'

set_option maxRecDepth 100000 in
set_option maxHeartbeats 1000000 in
theorem write_ok (A : Option Addr) (n c B : Nat) (d : List Int) (s : Int) (r : Rc) (w : World) (h : Reads w B 1 A n (d.map (Value.int .u8))) (hn : n ≤ c) (hc : n ≤ 90000) (hB : B ≤ w.heap.size) (h0 : 0 ≤ s) (h1 : s ≤ n) (hr : r.check = 0) :
    Calls Try.prog 19 #[.agg #[.slice A n c, .int .i64 s], r.val] w (WritePost w d s r) := by
  obtain ⟨i0, hi0, hz0, hz1, hz2⟩ := info_parts u8_info
  have hl : d.length = n := by simpa using h.1
  have hp := recBytes_le r
  have hx := one_nums .u8 (frameOf (recBytes r))
  have CE := fun W => Lib.hid (encode_yes r W hr)
  have CF := Lib.hid (fun A n c B W hd hm hb => frame_any A n c B (recBytes r) W hd hm hb (bytesOf_bd r.nums (rc_ok r hr).bd))
  have CO := Lib.hid (fun (W : World) (hd : Reads W B 1 A n (d.map (Value.int .u8))) (hb : B ≤ W.heap.size) => open_ok A n c B d s W hd hn (by omega) hb h0 h1)
  have HW := Lib.hid (show ∀ v w', w'.ownsRow w.heap.size 5 1 v (n + ((recBytes r).length + 6)) (d.map (Value.int .u8) ++ (frameOf (recBytes r)).map (Value.int .u8)) → Below w.heap.size w w' → WritePost w d s r (.returned (.tuple #[.agg #[v, .int .i64 s], .int .i64 0])) w' from fun v w' ho hb => ⟨v, rfl, by rw [hl, List.map_append]; exact ho, hb⟩)
  obtain ⟨m, hm⟩ : ∃ m, (recBytes r).length = m := ⟨_, rfl⟩
  have HM := Lib.hid hm
  obtain ⟨L, hL⟩ : ∃ L, m + 6 = L := ⟨_, rfl⟩
  have HLL := Lib.hid hL
  rw [hm, hL] at HW
  rw [hm] at hp
  have hp1 : 16 ≤ m := hp.1
  have hp2 : m ≤ 40 := hp.2
  have hL1 : 22 ≤ L := by omega
  have hL2 : L ≤ 46 := by omega
  obtain ⟨b0, b1, b2, hbel⟩ := blk3 w 45 29 45 #[.slice A n c, .int .i64 s] r.cells #[.slice none 0 0, .int .i64 0]
  have hrd := ((h.alloc hB (.cells #[.slice A n c, .int .i64 s] 45)).alloc (by simp; omega) (.cells r.cells 29)).alloc (by simp; omega) (.cells #[.slice none 0 0, .int .i64 0] 45)
  have hI : (n : Int) + (L : Int) ≤ 100000 := by omega
  clear h hl hr h0 h1 hm hn hp hL
  obtain ⟨k, q, ep, p, ⟨x0, x1, x2, x3, x4, x5⟩⟩ := r
  generalize WritePost w d s ⟨k, q, ep, p, ⟨x0, x1, x2, x3, x4, x5⟩⟩ = POST at *
  unfold Rc.val Rc.cells
  go_enter Try.func19, Try.ntmps19
  go_wp2_with fail
  obtain ⟨g, hg⟩ : ∃ g, g = w.heap.size := ⟨_, rfl⟩
  unfold Rc.cells at b0 b1 b2 hbel hrd
  generalize ((w.alloc (.cells #[.slice A n c, .int .i64 s] 45)).alloc (.cells #[.int .i64 k, .int .i64 q, .int .i64 ep, .int .i64 p, .int .i64 x0, .int .i64 x1, .int .i64 x2, .int .i64 x3, .int .i64 x4, .int .i64 x5] 29)).alloc (.cells #[.slice none 0 0, .int .i64 0] 45) = w0 at *
  rw [← hg] at b0 b1 b2 hbel hB HW ⊢
  have hs0 := hbel.size
  have z0 := b2.lt
  have hB0 : B ≤ w0.heap.size := by omega
  clear hg
  refine (CO.out w0 hrd hB0).mono ?_
  rintro e w1 ⟨v1, rfl, o1, e1⟩
  obtain ⟨A1, c1, rfl, hc1, hm1⟩ := own_shape o1
  have f1 : Blk w1 (g + 1) 29 _ := b1.below e1 b1.lt
  have f2 : Blk w1 (g + 1 + 1) 45 _ := b2.below e1 b2.lt
  have bel1 : Below g w w1 := hbel.trans (e1.mono (by omega))
  have z1 := f2.lt
  have q1 := e1.size
  clear b0 b1 b2 hbel e1 CO hrd
  have r0 : w1.cell? ⟨g + 1, 0, none⟩ = some (.int .i64 k) := f1.cell 0
  have r1 : w1.cell? ⟨g + 1, 1, none⟩ = some (.int .i64 q) := f1.cell 1
  have r2 : w1.cell? ⟨g + 1, 2, none⟩ = some (.int .i64 ep) := f1.cell 2
  have r3 : w1.cell? ⟨g + 1, 3, none⟩ = some (.int .i64 p) := f1.cell 3
  have r4 : w1.cell? ⟨g + 1, 4, none⟩ = some (.int .i64 x0) := f1.cell 4
  have r5 : w1.cell? ⟨g + 1, 5, none⟩ = some (.int .i64 x1) := f1.cell 5
  have r6 : w1.cell? ⟨g + 1, 6, none⟩ = some (.int .i64 x2) := f1.cell 6
  have r7 : w1.cell? ⟨g + 1, 7, none⟩ = some (.int .i64 x3) := f1.cell 7
  have r8 : w1.cell? ⟨g + 1, 8, none⟩ = some (.int .i64 x4) := f1.cell 8
  have r9 : w1.cell? ⟨g + 1, 9, none⟩ = some (.int .i64 x5) := f1.cell 9
  have HX := Lib.hid hx
  have HI := Lib.hid hI
  have HM1 := Lib.hid hm1
  clear hx hI hm1
  have z1' : g + 1 < w1.heap.size := by omega
  go_wp2_with fail
  refine ((CE _).out).mono ?_
  rintro e w2 ⟨v2, rfl, o2, e2⟩
  have hown2 := own_below (o1.alloc (.cells #[.slice A1 n c1, .int .i64 s] 45)) e2 (Nat.le_refl _)
  have fx : Blk w2 w1.heap.size 45 #[.slice A1 n c1, .int .i64 s] := (Blk.new w1 45 _).below e2 (by simp)
  have f22 : Blk w2 (g + 1 + 1) 45 #[.slice none 0 0, .int .i64 0] := (f2.alloc _).below e2 (by simp; omega)
  have bel2 : Below g w w2 := (bel1.alloc (by omega) _).trans (e2.mono (by simp; omega))
  have z2 := fx.lt
  have hgx : g + 1 + 1 < w1.heap.size := z1
  clear r0 r1 r2 r3 r4 r5 r6 r7 r8 r9 f1 f2 e2 bel1 CE o1 z1 z1'
  rw [HM.out] at o2
  obtain ⟨A2, c2, rfl, hc2, hm2⟩ := own_shape o2
  have rd2 := Reads.of_own o2
  have CF2 := Lib.hid (CF.out A2 m c2 _ w2 rd2 (by omega) (Nat.le_refl _))
  clear CF rd2 o2 hm2
  go_wp2_with fail
  refine CF2.out.mono ?_
  rintro e w3 ⟨v3, rfl, o3, e3⟩
  rw [HM.out, HLL.out] at o3
  have hown3 := own_below hown2 e3 (Nat.le_refl _)
  have fx3 : Blk w3 w1.heap.size 45 #[.slice A1 n c1, .int .i64 s] := fx.below e3 z2
  have f23 : Blk w3 (g + 1 + 1) 45 #[.slice none 0 0, .int .i64 0] := f22.below e3 f22.lt
  have bel3 : Below g w w3 := bel2.trans (e3.mono (by omega))
  have z3 := fx3.lt
  have z3' := f23.lt
  clear fx f22 bel2 e3 CF2 z2 hown2
  obtain ⟨A3, c3, rfl, hc3, hm3⟩ := own_shape o3
  have rd3 := Reads.of_own o3
  have d0 := fx3.cell 0
  have d1 := fx3.cell 1
  have fz := fx3.frozen
  have hI := HI.out
  have hxx := HX.out
  generalize (frameOf (recBytes ⟨k, q, ep, p, ⟨x0, x1, x2, x3, x4, x5⟩⟩)).map (Value.int .u8) = ys at *
  generalize d.map (Value.int .u8) = xs at *
  have HX2 := Lib.hid hxx
  clear hxx HX HI HM o3 hm3 HLL
  have hne : ¬ g + 1 + 1 = w1.heap.size := by omega
  have hne2 : ¬ w1.heap.size = g + 1 + 1 := by omega
  go_wp2_with (at_builtin; refine wpList_append_any _ rfl (.tmp 39) (.tmp 40) _ rfl w0.heap.size 5 i0 _ 1 1 Try.underlying31 hi0 hz0 hz1 hz2 rfl (by omega) (.slice A1 n c1) n xs rfl hown3 w3.heap.size A3 L c3 ys rfl rd3 HX2.out (by simp only [maxLen]; omega) (by omega) (by omega) ?_; intro v4 w4 o4 g4 at4; have hn1 := own_blk_ne hown3 fx3 (by decide); have fx4 := fx3.grown g4 (fun hk => hn1 hk.symm); have f24 := f23.grown g4 (fun hk => (by have := own_block_ge hown3 _ hk.symm; omega)); have bel4 : Below g w w4 := bel3.grown g4 (by omega) (fun k hk => (by have := own_block_ge hown3 _ hk; omega)); have hn4 := own_blk_ne o4 fx4 (by decide); have hn4' := own_blk_ne o4 f24 (by decide); obtain ⟨A4, c4, rfl, _, _⟩ := own_shape o4; clear hown3 fx3 f23 bel3 g4 at4 rd3 d0 d1 fz; have d0 := fx4.cell 0; have d1 := fx4.cell 1; have fz := fx4.frozen; have d2 := f24.cell 0; have d3 := f24.cell 1; have fz2 := f24.frozen)
  have o5 := own_base (base' := g) (ownsRow_setCell_other (a := ⟨g + 1 + 1, 1, none⟩) (ownsRow_setCell_other (a := ⟨g + 1 + 1, 0, none⟩) (ownsRow_setCell_other (a := ⟨w1.heap.size, 0, none⟩) o4 hn4 (.slice A4 (n + L) c4)) hn4' (.slice A4 (n + L) c4)) hn4' (.int .i64 s)) (by omega)
  have bel5 := ((bel4.setCell (p := ⟨w1.heap.size, 0, none⟩) (by simp; omega) (.slice A4 (n + L) c4)).setCell (p := ⟨g + 1 + 1, 0, none⟩) (by simp; omega) (.slice A4 (n + L) c4)).setCell (p := ⟨g + 1 + 1, 1, none⟩) (by simp; omega) (.int .i64 s)
  have HFIN := Lib.hid (HW.out _ _ o5 bel5)
  clear o5 bel5 HW HX2 HM1
  exact bodyPost_ret (v := .tuple #[.agg #[.slice A4 (n + L) c4, .int .i64 s], .int .i64 0]) (by simp [results, Try.results19, go_sem, *]) rfl HFIN.out

end Go.Proofs.Ytcgamaponeglhaa
