/- Tapes: Read. -/
import Derived.Test.YtcgamaponeglhaaReadLaw
import Derived.Test.YtcgamaponeglhaaTape2
namespace Go.Proofs.Ytcgamaponeglhaa
open Go.RowKit

def ReadPost (w : World) (t : List Rc × Nat) (e : Ending) (w' : World) : Prop :=
  ∃ u, e = .returned (.tuple #[u, .int .i64 t.2, .int .i64 0]) ∧ w'.ownsRow w.heap.size 29 10 u t.1.length (rcRow t.1) ∧ Below w.heap.size w w'

/-- what holds ahead of a round -/
structure RdAt (w : World) (g : Nat) (d : List Int) (T : List Rc × Nat) (A : Option Addr) (n c : Nat) (s : Int) (k : Nat) (acc : List Rc) (u : Value) (wr : World) : Prop where
  le : k ≤ n
  cnt : acc.length ≤ k
  go : T = (acc ++ (readOf (d.drop k)).1, k + (readOf (d.drop k)).2)
  tape : Blk wr g 45 #[.slice A n c, .int .i64 s]
  own : wr.ownsRow w.heap.size 5 1 (.slice A n c) n (d.map (Value.int .u8))
  rows : wr.ownsRow w.heap.size 29 10 u acc.length (rcRow acc)
  bel : Below w.heap.size w wr

theorem RdAt.below {w : World} {g : Nat} {d : List Int} {T : List Rc × Nat} {A : Option Addr} {n c : Nat} {s : Int} {k : Nat} {acc : List Rc} {u : Value} {wr w' : World} (h : RdAt w g d T A n c s k acc u wr) (hb : Below wr.heap.size wr w') : RdAt w g d T A n c s k acc u w' :=
  ⟨h.le, h.cnt, h.go, h.tape.below hb h.tape.lt, own_below h.own hb (Nat.le_refl _), own_below h.rows hb (Nat.le_refl _), h.bel.trans (hb.mono h.bel.size)⟩
theorem RdAt.stop {w : World} {g : Nat} {d : List Int} {T : List Rc × Nat} {A : Option Addr} {n c : Nat} {s : Int} {k : Nat} {acc : List Rc} {u : Value} {wr : World} (h : RdAt w g d T A n c s k acc u wr) (hm : (firstOf (d.drop k)).2 = 0) : T = (acc, k) := by
  rw [h.go, readOf_none hm]; simp
theorem RdAt.next {w : World} {g : Nat} {d : List Int} {T : List Rc × Nat} {A : Option Addr} {n c : Nat} {s : Int} {k : Nat} {acc : List Rc} {u u' : Value} {wr w' : World} (h : RdAt w g d T A n c s k acc u wr) (hl : d.length = n) {m : Nat} {r : Rc} (hf : firstOf (d.drop k) = (r, m)) (hm : m ≠ 0)
    (ho : w'.ownsRow w.heap.size 29 10 u' (acc.length + 1) (rcRow acc ++ r.cells.toList)) (hg : wr.grownBy w' u.ownBlock) : RdAt w g d T A n c s (k + m) (acc ++ [r]) u' w' := by
  have hle := firstOf_le (d.drop k)
  rw [hf, List.length_drop] at hle
  have n2 := own_blk_ne h.rows h.tape (by decide)
  have := h.le
  have := h.cnt
  refine ⟨by simp only at hle; omega, by simp; omega, ?_, h.tape.grown hg (fun e => n2 e.symm), own_grown h.own hg (own_row_ne h.own h.rows (by decide)), by rw [rcRow_snoc, List.length_append]; exact ho, h.bel.grown hg h.bel.size (own_block_ge h.rows)⟩
  have e := h.go
  rw [readOf_some (by rw [hf]; exact hm), hf] at e
  simp only [List.drop_drop] at e
  rw [e]
  simp
  omega

set_option maxRecDepth 100000 in
set_option maxHeartbeats 1000000 in
theorem read_ok (A : Option Addr) (n c B : Nat) (d : List Int) (s : Int) (w : World) (h : Reads w B 1 A n (d.map (Value.int .u8))) (hn : n ≤ c) (hc : n ≤ 90000) (hB : B ≤ w.heap.size) (h0 : 0 ≤ s) (h1 : s ≤ n) (hz : ∀ z ∈ d, 0 ≤ z ∧ z ≤ 255) :
    Calls Try.prog 23 #[.agg #[.slice A n c, .int .i64 s]] w (ReadPost w (readOf d)) := by
  obtain ⟨i0, hi0, hz0, hz1, hz2⟩ := info_parts rec_info
  have hl : d.length = n := by simpa using h.1
  have CO := Lib.hid (fun (W : World) (hd : Reads W B 1 A n (d.map (Value.int .u8))) (hb : B ≤ W.heap.size) => open_ok A n c B d s W hd hn (by omega) hb h0 h1)
  have b0 := Blk.new w 45 #[.slice A n c, .int .i64 s]
  have hbel := (Below.refl w.heap.size w).alloc (Nat.le_refl _) (.cells #[.slice A n c, .int .i64 s] 45)
  have hrd := h.alloc hB (.cells #[.slice A n c, .int .i64 s] 45)
  clear h
  obtain ⟨T, hT⟩ : ∃ T, readOf d = T := ⟨_, rfl⟩
  rw [hT]
  have HT := Lib.hid hT
  clear hT
  go_enter Try.func23, Try.ntmps23
  go_wp2_with fail
  refine (CO.out _ hrd (by simp; omega)).mono ?_
  rintro e w1 ⟨v1, rfl, o1, e1⟩
  obtain ⟨A1, c1, rfl, hc1, hm1⟩ := own_shape o1
  have bel1 : Below w.heap.size w w1 := hbel.trans (e1.mono (by simp))
  have r1 := own_base (base' := w.heap.size) o1 (by simp)
  have z1 : w.heap.size + 1 ≤ w1.heap.size := by have := e1.size; simpa using this
  clear b0 hbel e1 CO hrd o1
  go_wp2_with fail
  obtain ⟨g, hg⟩ : ∃ g, g = w1.heap.size := ⟨_, rfl⟩
  have AT0 : RdAt w g d T A1 n c1 s 0 [] (.slice none 0 0) (w1.alloc (.cells #[.slice A1 n c1, .int .i64 s] 45)) :=
    ⟨Nat.zero_le _, Nat.le_refl _, by rw [← HT.out]; simp, by rw [hg]; exact Blk.new _ _ _, r1.alloc _, World.ownsRow_nil _ _ _ _, bel1.alloc (by omega) _⟩
  generalize w1.alloc (.cells #[.slice A1 n c1, .int .i64 s] 45) = w2 at *
  rw [← hg] at z1 ⊢
  clear r1 bel1 hg HT
  go_loopw [7, 8] (fun s7 s8 wr => ∃ (k : Nat) (acc : List Rc), s8 = .int .i64 k ∧ RdAt w g d T A1 n c1 s k acc s7 wr) (fun _ s8 _ => n - (intOf s8).toNat)
  case atStart => exact ⟨0, [], rfl, AT0⟩
  case round =>
    clear AT0
    obtain ⟨k, acc, rfl, H⟩ := hrel
    have t0 := H.tape.cell 0
    have t1 := H.tape.cell 1
    have hk := H.le
    have hkI : (k : Int) ≤ (n : Int) := by omega
    have hcI : (n : Int) ≤ (c1 : Int) := by omega
    have hcut := Reads.cut (k := k) (Reads.of_own H.own) hk hc1
    rw [Nat.mul_one, ← List.map_drop] at hcut
    have hzd : ∀ z ∈ d.drop k, 0 ≤ z ∧ z ≤ 255 := fun z h => hz z (List.mem_of_mem_drop h)
    have hcm : c1 ≤ 9223372036854775807 := by unfold maxLen at hm1; omega
    have CF := Lib.hid (fun A hr => first_any A (n - k) (c1 - k) wr.heap.size (d.drop k) wr hr (Nat.le_refl _) (by omega) (by omega) (by omega) hzd)
    have hfl := firstOf_le (d.drop k)
    rw [List.length_drop, hl] at hfl
    obtain ⟨⟨r, m⟩, hF⟩ : ∃ F, firstOf (d.drop k) = F := ⟨_, rfl⟩
    rw [hF] at CF hfl
    have HF := Lib.hid hF
    clear hF
    simp only at hfl
    by_cases hck : c1 = k
    · rw [if_pos hck] at hcut
      obtain rfl : m = 0 := by omega
      have HT := Lib.hid (H.stop (by rw [HF.out]))
      go_wp2_with fail
      have CF2 := CF.out _ hcut
      rw [hck, Nat.sub_self] at CF2
      refine CF2.mono ?_
      rintro e w3 ⟨rfl, b3⟩
      have H3 := H.below b3
      clear H t0 t1 CF CF2 hcut b3
      obtain ⟨rk, rq, re, rp, ⟨x0, x1, x2, x3, x4, x5⟩⟩ := r
      unfold Rc.val Rc.cells
      go_wp2
      exact bodyPost_ret (v := .tuple #[u7, .int .i64 k, .int .i64 0]) (by simp [results, Try.results23, go_sem]) rfl (by rw [HT.out]; exact ⟨u7, rfl, H3.rows.alloc _, H3.bel.alloc H3.bel.size _⟩)
    · rw [if_neg hck] at hcut
      have hck' : ¬ c1 ≤ k := by omega
      go_wp2_with fail
      refine (CF.out _ hcut).mono ?_
      rintro e w3 ⟨rfl, b3⟩
      have H3 := H.below b3
      have hH := Lib.hid H
      clear H t0 t1 CF hcut b3
      by_cases hm0 : m = 0
      · subst hm0
        have HT := Lib.hid (H3.stop (by rw [HF.out]))
        obtain ⟨rk, rq, re, rp, ⟨x0, x1, x2, x3, x4, x5⟩⟩ := r
        unfold Rc.val Rc.cells
        go_wp2
        exact bodyPost_ret (v := .tuple #[u7, .int .i64 k, .int .i64 0]) (by simp [results, Try.results23, go_sem]) rfl (by rw [HT.out]; exact ⟨u7, rfl, H3.rows.alloc _, H3.bel.alloc H3.bel.size _⟩)
      · have hmI : ¬ (m : Int) = 0 := by omega
        obtain ⟨rk, rq, re, rp, ⟨x0, x1, x2, x3, x4, x5⟩⟩ := r
        have H4 := (H3.below ((Below.refl _ _).alloc (Nat.le_refl _) (.cells (Rc.cells ⟨rk, rq, re, rp, ⟨x0, x1, x2, x3, x4, x5⟩⟩) 29)))
        have o5 := H4.rows.alloc (.cells (Rc.cells ⟨rk, rq, re, rp, ⟨x0, x1, x2, x3, x4, x5⟩⟩) 29)
        have rR := reads_rec (w3.alloc (.cells (Rc.cells ⟨rk, rq, re, rp, ⟨x0, x1, x2, x3, x4, x5⟩⟩) 29)) ⟨rk, rq, re, rp, ⟨x0, x1, x2, x3, x4, x5⟩⟩
        have FH := Lib.hid (fun u' w' ho hg => (H4.below ((Below.refl _ _).alloc (Nat.le_refl _) (.cells (Rc.cells ⟨rk, rq, re, rp, ⟨x0, x1, x2, x3, x4, x5⟩⟩) 29))).next hl HF.out hm0 (u' := u') (w' := w') ho hg)
        have hsz := H4.bel.size
        have hcnt := H4.cnt
        have OR := one_rec ⟨rk, rq, re, rp, ⟨x0, x1, x2, x3, x4, x5⟩⟩
        have i2 : IntKind.i64.wrap ((k : Int) + (m : Int)) = (k : Int) + (m : Int) := IntWalk.i64_in _ (by omega)
        rw [World.size_alloc] at rR
        clear H3 H4 hH
        unfold Rc.val Rc.cells
        go_wp2_with (at_builtin; refine wpList_append_any _ rfl (.tmp 30) (.tmp 32) _ rfl w.heap.size 29 i0 _ 10 80 Try.underlying50 hi0 hz0 hz1 hz2 rfl (by omega) u7 acc.length (rcRow acc) rfl o5 _ _ 1 1 _ rfl rR OR (by simp only [maxLen]; omega) (by omega) (Nat.le_trans hsz (by simp)) ?_; intro v6 w6 o6 g6 at6)
        have H6 := FH.out v6 w6 o6 g6
        clear FH o6 g6 at6 o5 rR
        go_roundw
        case rel => exact ⟨k + m, _, by rw [Int.natCast_add], H6⟩
        case measure => simp [intOf]; omega

end Go.Proofs.Ytcgamaponeglhaa
