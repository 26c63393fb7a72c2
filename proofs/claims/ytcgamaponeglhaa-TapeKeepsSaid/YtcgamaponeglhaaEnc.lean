/- 'put' and 'pack.Encode'. -/
import Derived.Test.YtcgamaponeglhaaRec
import Derived.Test.YtcgamaponeglhaaSome
namespace Go.Proofs.Ytcgamaponeglhaa
open Go.RowKit

/-- numbers as bytes -/
def bytesOf (ns : List Int) : List Int := ns.flatMap four
theorem bytesOf_length (ns : List Int) : (bytesOf ns).length = 4 * ns.length := by
  induction ns with
  | nil => rfl
  | cons n ns ih => simp only [bytesOf, List.flatMap_cons, List.length_append, List.length_cons] at ih ⊢; rw [ih]; simp [four]; omega
theorem bytesOf_append (a b : List Int) : bytesOf (a ++ b) = bytesOf a ++ bytesOf b := by simp [bytesOf]
theorem bytesOf_snoc (ns : List Int) (n : Int) : bytesOf (ns ++ [n]) = bytesOf ns ++ four n := by simp [bytesOf]
theorem four_bd (n : Int) (h0 : 0 ≤ n) (h1 : n ≤ 2147483647) : ∀ z ∈ four n, 0 ≤ z ∧ z ≤ 255 := by
  intro z hz
  simp only [four, List.mem_cons, List.not_mem_nil, or_false] at hz
  omega
theorem bytesOf_bd (ns : List Int) (h : ∀ n ∈ ns, 0 ≤ n ∧ n ≤ 2147483647) : ∀ z ∈ bytesOf ns, 0 ≤ z ∧ z ≤ 255 := by
  intro z hz
  simp only [bytesOf, List.mem_flatMap] at hz
  obtain ⟨n, hn, hz⟩ := hz
  exact four_bd n (h n hn).1 (h n hn).2 z hz

/-- the numbers' bytes, in new memory -/
def PutPost (w : World) (ns : List Int) (ed : Ending) (w' : World) : Prop := Gives w 5 1 (4 * ns.length) ((bytesOf ns).map (Value.int .u8)) ed w'

/-- what 'put' has collected behind k numbers -/
def PutHeld (w : World) (ns : List Int) (k : Nat) (v : Value) (wr : World) : Prop :=
  wr.ownsRow w.heap.size 5 1 v (4 * k) ((bytesOf (ns.take k)).map (Value.int .u8)) ∧ Below w.heap.size w wr

theorem own_block_ge {w : World} {base size n : Nat} {e : TypeId} {v : Value} {xs : List Value} (h : w.ownsRow base e size v n xs) : ∀ k, v.ownBlock = some k → base ≤ k := by
  intro k hk
  rcases h.2 with ⟨rfl, _⟩ | ⟨g, cap, cur, rfl, hb, _⟩
  · simp [Value.ownBlock] at hk
  · have : g = k := by simpa [Value.ownBlock] using hk
    omega
theorem putHeld_step {w wr w1 w2 : World} {ns : List Int} {k : Nat} {v v2 : Value} {z : Int} (hk : k < ns.length) (hz : ns.getD k 0 = z) (h : PutHeld w ns k v wr) (b1 : Below wr.heap.size wr w1)
    (ho : w2.ownsRow w.heap.size 5 1 v2 (4 * k + 4) ((bytesOf (ns.take k)).map (Value.int .u8) ++ (four z).map (Value.int .u8))) (hg : w1.grownBy w2 v.ownBlock) : PutHeld w ns (k + 1) v2 w2 := by
  refine ⟨?_, (h.2.trans (b1.mono h.2.size)).grown hg (Nat.le_trans h.2.size b1.size) (own_block_ge h.1)⟩
  rw [take_snoc ns k hk, hz, bytesOf_snoc, List.map_append]
  exact ho

set_option maxHeartbeats 800000 in
theorem put_any (A : Option Addr) (n c B : Nat) (ns : List Int) (w : World) (h : Reads w B 1 A n (ns.map (Value.int .i64))) (hn : n ≤ c) (hc : n ≤ 1000) (hB : B ≤ w.heap.size) (hz : ∀ z ∈ ns, 0 ≤ z ∧ z ≤ 2147483647) :
    Calls Try.prog 28 #[.slice A n c] w (PutPost w ns) := by
  obtain ⟨i0, hi0, hz0, hz1, hz2⟩ := info_parts u8_info
  have hl : ns.length = n := by simpa using h.1
  have h0 : PutHeld w ns 0 (.slice none 0 0) w := ⟨World.ownsRow_nil _ _ _ _, Below.refl _ _⟩
  go_enter Try.func28, Try.ntmps28
  go_wp2
  go_loopw [3, 10] (fun v i wr => ∃ k : Nat, k ≤ n ∧ i = .int .i64 k ∧ PutHeld w ns k v wr) (fun _ i _ => n - (intOf i).toNat)
  case atStart => exact ⟨0, Nat.zero_le _, rfl, h0⟩
  case round =>
    obtain ⟨k, hk, rfl, hh⟩ := hrel
    by_cases hlt : k < n
    · obtain ⟨b, off, rfl, hbb, hcell⟩ := h.plain (by omega) (by omega)
      have hcx : wr.cell? ⟨b, off + k, none⟩ = some (.int .i64 (ns.getD k 0)) := (hh.2.cell (p := ⟨b, off + k, none⟩) (by simp; omega)).trans (hcell k _ (by
        rw [List.getElem?_map, List.getElem?_eq_getElem (show k < ns.length by omega)]; simp [List.getD, List.getElem?_eq_getElem (show k < ns.length by omega)]))
      have hzk := hz (ns.getD k 0) (by rw [List.getD, List.getElem?_eq_getElem (show k < ns.length by omega)]; simp)
      have hkl : k < ns.length := by omega
      have hh1 := hh.1
      have hh2 := hh.2.size
      have HH := Lib.hid hh
      have HK := Lib.hid hkl
      clear hh hkl h hcell hz h0
      obtain ⟨z, hz⟩ : ∃ z, ns.getD k 0 = z := ⟨_, rfl⟩
      rw [hz] at hcx hzk
      have HZ := Lib.hid hz
      clear hz
      have hx1 := one_nums .u8 (four z)
      obtain ⟨xs, hxs⟩ : ∃ xs, (bytesOf (ns.take k)).map (Value.int .u8) = xs := ⟨_, rfl⟩
      rw [hxs] at hh1
      have HX := Lib.hid hxs
      clear hxs
      go_wp2_with fail
      refine (number_yes _ _ (by omega) (by omega)).mono ?_
      rintro e w1 ⟨g1, rfl, o1, b1⟩
      have r1 := Reads.of_own o1
      have ho := own_below hh1 b1 (Nat.le_refl _)
      have hbs := b1.size
      go_wp2_with (at_builtin; refine wpList_append_any _ rfl _ _ _ rfl w.heap.size 5 i0 _ 1 1 Try.underlying31 hi0 hz0 hz1 hz2 rfl (by omega) u3 (4 * k) xs rfl ho w1.heap.size (some ⟨g1, 0, none⟩) 4 4 ((four z).map (Value.int .u8)) rfl r1 hx1 (by simp only [maxLen]; omega) (by omega) (by omega) ?_; intro v2 w2 o2 g2 at2)
      go_roundw
      case rel => exact ⟨k + 1, by omega, by go_num, putHeld_step HK.out HZ.out HH.out b1 (by rw [HX.out]; exact o2) g2⟩
      case measure => simp [intOf]; omega
    · obtain rfl : k = n := by omega
      have h1 := hh.1
      rw [List.take_of_length_le (by omega)] at h1
      have h2 := hh.2
      have e4 : 4 * k = 4 * ns.length := by omega
      rw [e4] at h1
      have H1 := Lib.hid h1
      clear h0 hh h h1 e4 hz hl
      go_wp2
      go_ret
      exact ⟨_, rfl, H1.out, h2⟩

def Ev.nums (e : Ev) : List Int := [e.kind, e.prod, e.id, e.body, e.hep, e.hno]
def Rc.nums (r : Rc) : List Int := [r.kind, r.queue, r.epoch, r.peer] ++ (if hasEv r.kind then r.ev.nums else [])
/-- a record's bytes -/
def recBytes (r : Rc) : List Int := bytesOf r.nums
theorem recBytes_ev (r : Rc) (h : hasEv r.kind = true) : recBytes r = bytesOf [r.kind, r.queue, r.epoch, r.peer] ++ bytesOf r.ev.nums := by
  unfold recBytes Rc.nums
  rw [if_pos h, bytesOf_append]
theorem recBytes_no (r : Rc) (h : hasEv r.kind = false) : recBytes r = bytesOf [r.kind, r.queue, r.epoch, r.peer] := by
  unfold recBytes Rc.nums
  rw [if_neg (by rw [h]; simp), List.append_nil]
theorem recBytes_length (r : Rc) : (recBytes r).length = if hasEv r.kind then 40 else 16 := by
  unfold recBytes Rc.nums
  rw [bytesOf_length]
  split <;> simp [Ev.nums]

theorem inB_true {n lo hi : Int} (h : inB n lo hi = true) : lo ≤ n ∧ n ≤ hi := by simpa [inB] using h
/-- what an event that may be is made of -/
structure Ev.Ok (e : Ev) : Prop where
  k1 : 1 ≤ e.kind
  k4 : e.kind ≤ 4
  p0 : 0 ≤ e.prod
  p1 : e.prod ≤ 3
  i0 : 0 ≤ e.id
  i1 : e.id ≤ 1073741824
  b0 : 0 ≤ e.body
  b1 : e.body ≤ 1000000
  h0 : 0 ≤ e.hep
  h1 : e.hep ≤ 1048576
  n0 : 0 ≤ e.hno
  n1 : e.hno ≤ 1073741824
theorem ev_ok (e : Ev) (h : e.check = 0) : e.Ok := by
  unfold Ev.check at h
  by_cases h1 : e.kind = 1
  · rw [if_pos h1] at h
    by_cases h2 : e.ok1 = true
    · rw [if_pos h2] at h
      by_cases h3 : e.hep = 0 ∧ e.hno = 0
      · simp only [Ev.ok1, Bool.and_eq_true] at h2
        have a := inB_true h2.1.1
        have b := inB_true h2.1.2
        have c := inB_true h2.2
        exact ⟨by omega, by omega, by omega, by omega, by omega, by omega, by omega, by omega, by omega, by omega, by omega, by omega⟩
      · rw [if_neg h3] at h; simp at h
    · rw [if_neg h2] at h; simp at h
  · rw [if_neg h1] at h
    by_cases h3 : e.kind = 3
    · rw [if_pos h3] at h
      by_cases h2 : e.ok3 = true
      · rw [if_pos h2] at h
        by_cases h4 : e.prod = 0 ∧ e.id = 0 ∧ e.body = 0
        · simp only [Ev.ok3, Bool.and_eq_true] at h2
          have a := inB_true h2.1
          have b := inB_true h2.2
          exact ⟨by omega, by omega, by omega, by omega, by omega, by omega, by omega, by omega, by omega, by omega, by omega, by omega⟩
        · rw [if_neg h4] at h; simp at h
      · rw [if_neg h2] at h; simp at h
    · rw [if_neg h3] at h
      by_cases h2 : e.kind = 2 ∨ e.kind = 4
      · rw [if_pos h2] at h
        by_cases h4 : e.prod = 0 ∧ e.id = 0 ∧ e.body = 0 ∧ e.hep = 0 ∧ e.hno = 0
        · exact ⟨by omega, by omega, by omega, by omega, by omega, by omega, by omega, by omega, by omega, by omega, by omega, by omega⟩
        · rw [if_neg h4] at h; simp at h
      · rw [if_neg h2] at h; simp at h
/-- what a record that may be is made of -/
structure Rc.Ok (r : Rc) : Prop where
  k1 : 1 ≤ r.kind
  k7 : r.kind ≤ 7
  q0 : 0 ≤ r.queue
  q1 : r.queue ≤ 3
  e0 : 0 ≤ r.epoch
  e1 : r.epoch ≤ 1048576
  p0 : 0 ≤ r.peer
  p1 : r.peer ≤ 4
  ev : hasEv r.kind = true → r.ev.Ok
  no : hasEv r.kind = false → r.ev = Ev.zero
theorem rc_ok (r : Rc) (h : r.check = 0) : r.Ok := by
  unfold Rc.check at h
  by_cases h1 : r.kind < 1 ∨ 7 < r.kind
  · rw [if_pos h1] at h; simp at h
  rw [if_neg h1] at h
  by_cases h2 : (inB r.queue 0 3 && inB r.epoch 0 1048576 && inB r.peer 0 4) = false
  · rw [if_pos h2] at h; simp at h
  rw [if_neg h2] at h
  have h2' : (inB r.queue 0 3 && inB r.epoch 0 1048576 && inB r.peer 0 4) = true := eq_true_of_ne_false h2
  simp only [Bool.and_eq_true] at h2'
  have a := inB_true h2'.1.1
  have b := inB_true h2'.1.2
  have c := inB_true h2'.2
  by_cases h3 : hasEv r.kind = true
  · rw [if_pos h3] at h
    exact ⟨by omega, by omega, a.1, a.2, b.1, b.2, c.1, c.2, fun _ => ev_ok _ h, fun h4 => by rw [h3] at h4; cases h4⟩
  · rw [if_neg h3] at h
    have h4 : evNe r.ev.kind r.ev.prod r.ev.id r.ev.body r.ev.hep r.ev.hno 0 0 0 0 0 0 = false := by
      cases hh : evNe r.ev.kind r.ev.prod r.ev.id r.ev.body r.ev.hep r.ev.hno 0 0 0 0 0 0 with
      | false => rfl
      | true => rw [hh] at h; simp at h
    refine ⟨by omega, by omega, a.1, a.2, b.1, b.2, c.1, c.2, fun h5 => absurd h5 h3, fun _ => ?_⟩
    simp only [evNe, Bool.not_eq_false', Bool.and_eq_true, beq_iff_eq] at h4
    obtain ⟨⟨⟨⟨⟨e1, e2⟩, e3⟩, e4⟩, e5⟩, e6⟩ := h4
    rcases r with ⟨k, q, ep, p, ⟨x1, x2, x3, x4, x5, x6⟩⟩
    simp only at e1 e2 e3 e4 e5 e6
    subst e1 e2 e3 e4 e5 e6
    rfl
theorem Rc.Ok.head_bd {r : Rc} (h : r.Ok) : ∀ n ∈ [r.kind, r.queue, r.epoch, r.peer], 0 ≤ n ∧ n ≤ 2147483647 := by
  obtain ⟨a, b, c, d, e, f, g, i, _, _⟩ := h
  simp only [List.mem_cons, List.not_mem_nil, or_false]
  intro n hn
  omega
theorem Ev.Ok.bd {e : Ev} (h : e.Ok) : ∀ n ∈ e.nums, 0 ≤ n ∧ n ≤ 2147483647 := by
  obtain ⟨a, b, c, d, e, f, g, i, j, k, l, m⟩ := h
  simp only [Ev.nums, List.mem_cons, List.not_mem_nil, or_false]
  intro n hn
  omega
theorem Rc.Ok.bd {r : Rc} (h : r.Ok) : ∀ n ∈ r.nums, 0 ≤ n ∧ n ≤ 2147483647 := by
  intro n hn
  unfold Rc.nums at hn
  rcases List.mem_append.1 hn with h1 | h1
  · exact h.head_bd n h1
  · cases h2 : hasEv r.kind with
    | true => rw [if_pos h2] at h1; exact (h.ev h2).bd n h1
    | false => rw [if_neg (by rw [h2]; simp)] at h1; simp at h1

/-- the record's bytes, in new memory -/
def EncPost (w : World) (r : Rc) (ed : Ending) (w' : World) : Prop :=
  ∃ v, ed = .returned (.tuple #[v, .int .i64 0]) ∧ w'.ownsRow w.heap.size 5 1 v (recBytes r).length ((recBytes r).map (Value.int .u8)) ∧ Below w.heap.size w w'

set_option maxHeartbeats 800000 in
theorem encode_no (k q ep p a b c d e f : Int) (w : World) (h : Rc.check ⟨k, q, ep, p, ⟨a, b, c, d, e, f⟩⟩ = 0) (he : hasEv k = false) :
    Calls Try.prog 14 #[.agg #[.int .i64 k, .int .i64 q, .int .i64 ep, .int .i64 p, .int .i64 a, .int .i64 b, .int .i64 c, .int .i64 d, .int .i64 e, .int .i64 f]] w (EncPost w ⟨k, q, ep, p, ⟨a, b, c, d, e, f⟩⟩) := by
  have CR := fun W => Lib.hid (recCheck_any k q ep p a b c d e f W)
  rw [h] at CR
  have hok := rc_ok _ h
  have HB := Lib.hid (recBytes_no ⟨k, q, ep, p, ⟨a, b, c, d, e, f⟩⟩ he)
  have hbd := hok.head_bd
  have HP := fun W B A n c' h1 h2 h3 h4 => Lib.hid (put_any A n c' B [k, q, ep, p] W h1 h2 h3 h4 hbd)
  clear h hok hbd
  go_enter Try.func14, Try.ntmps14
  go_wp2_with fail
  refine ((CR _).out).mono ?_
  rintro e w1 ⟨rfl, b1⟩
  have E1 := (Blk.new w 29 (Rc.cells ⟨k, q, ep, p, ⟨a, b, c, d, e, f⟩⟩)).below b1 (by simp)
  obtain ⟨x0, x1, x2, x3, x4, x5, x6, x7, x8, x9⟩ := rcBlk E1
  have bel1 := ((Below.refl w.heap.size w).alloc (Nat.le_refl _) (.cells (Rc.cells ⟨k, q, ep, p, ⟨a, b, c, d, e, f⟩⟩) 29)).trans (b1.mono (by simp))
  clear b1
  have z1 := E1.lt
  go_wp2_with fail
  have R1 := Reads.of_own (new_row w1 3 [.int .i64 k, .int .i64 q, .int .i64 ep, .int .i64 p] _ rfl (by simp [maxLen]))
  refine ((HP _ _ _ _ _ R1 (by simp) (by simp) (Nat.le_refl _)).out).mono ?_
  clear R1
  rintro e w2 ⟨v1, rfl, o1, b1⟩
  have E2 := (E1.alloc (.cells #[.int .i64 k, .int .i64 q, .int .i64 ep, .int .i64 p] 3)).below b1 (by simp; omega)
  have bel2 := bel1.trans (((Below.refl _ _).alloc (Nat.le_refl _) _).trans (b1.mono (by simp)) |>.mono bel1.size)
  have o1' := own_base (base' := w.heap.size) o1 (by simp; have := bel1.size; omega)
  simp only [List.length_cons, List.length_nil, Nat.reduceAdd, Nat.reduceMul] at o1'
  clear b1 o1 E1 bel1 x0 x1 x2 x3 x4 x5 x6 x7 x8 x9 z1 CR HP
  obtain ⟨x0, x1, x2, x3, x4, x5, x6, x7, x8, x9⟩ := rcBlk E2
  have z2 := E2.lt
  go_wp2_with fail
  refine (hasEv_any _ _).mono ?_
  rintro e w3 ⟨rfl, rfl⟩
  rw [he]
  have hlen := recBytes_length ⟨k, q, ep, p, ⟨a, b, c, d, e, f⟩⟩
  rw [if_neg (by simp only; rw [he]; simp)] at hlen
  have FIN : EncPost w ⟨k, q, ep, p, ⟨a, b, c, d, e, f⟩⟩ (.returned (.tuple #[v1, .int .i64 0])) w2 := ⟨v1, rfl, by rw [hlen, HB.out]; exact o1', bel2⟩
  generalize EncPost w ⟨k, q, ep, p, ⟨a, b, c, d, e, f⟩⟩ = POST at *
  have FH := Lib.hid FIN
  clear FIN hlen o1' HB
  go_wp2
  exact FH.out

set_option maxHeartbeats 800000 in
theorem encode_ev (k q ep p a b c d e f : Int) (w : World) (h : Rc.check ⟨k, q, ep, p, ⟨a, b, c, d, e, f⟩⟩ = 0) (he : hasEv k = true) :
    Calls Try.prog 14 #[.agg #[.int .i64 k, .int .i64 q, .int .i64 ep, .int .i64 p, .int .i64 a, .int .i64 b, .int .i64 c, .int .i64 d, .int .i64 e, .int .i64 f]] w (EncPost w ⟨k, q, ep, p, ⟨a, b, c, d, e, f⟩⟩) := by
  have CR := fun W => Lib.hid (recCheck_any k q ep p a b c d e f W)
  rw [h] at CR
  have hok := rc_ok _ h
  have HB := Lib.hid (recBytes_ev ⟨k, q, ep, p, ⟨a, b, c, d, e, f⟩⟩ he)
  have hbd := hok.head_bd
  have HP := fun W B A n c' h1 h2 h3 h4 => Lib.hid (put_any A n c' B [k, q, ep, p] W h1 h2 h3 h4 hbd)
  have hbd2 := (hok.ev he).bd
  have HP2 := fun W B A n c' h1 h2 h3 h4 => Lib.hid (put_any A n c' B [a, b, c, d, e, f] W h1 h2 h3 h4 hbd2)
  clear hbd2
  clear h hok hbd
  go_enter Try.func14, Try.ntmps14
  go_wp2_with fail
  refine ((CR _).out).mono ?_
  rintro e w1 ⟨rfl, b1⟩
  have E1 := (Blk.new w 29 (Rc.cells ⟨k, q, ep, p, ⟨a, b, c, d, e, f⟩⟩)).below b1 (by simp)
  obtain ⟨x0, x1, x2, x3, x4, x5, x6, x7, x8, x9⟩ := rcBlk E1
  have bel1 := ((Below.refl w.heap.size w).alloc (Nat.le_refl _) (.cells (Rc.cells ⟨k, q, ep, p, ⟨a, b, c, d, e, f⟩⟩) 29)).trans (b1.mono (by simp))
  clear b1
  have z1 := E1.lt
  go_wp2_with fail
  have R1 := Reads.of_own (new_row w1 3 [.int .i64 k, .int .i64 q, .int .i64 ep, .int .i64 p] _ rfl (by simp [maxLen]))
  refine ((HP _ _ _ _ _ R1 (by simp) (by simp) (Nat.le_refl _)).out).mono ?_
  clear R1
  rintro e w2 ⟨v1, rfl, o1, b1⟩
  have E2 := (E1.alloc (.cells #[.int .i64 k, .int .i64 q, .int .i64 ep, .int .i64 p] 3)).below b1 (by simp; omega)
  have bel2 := bel1.trans (((Below.refl _ _).alloc (Nat.le_refl _) _).trans (b1.mono (by simp)) |>.mono bel1.size)
  have o1' := own_base (base' := w.heap.size) o1 (by simp; have := bel1.size; omega)
  simp only [List.length_cons, List.length_nil, Nat.reduceAdd, Nat.reduceMul] at o1'
  clear b1 o1 E1 bel1 x0 x1 x2 x3 x4 x5 x6 x7 x8 x9 z1 CR HP
  obtain ⟨x0, x1, x2, x3, x4, x5, x6, x7, x8, x9⟩ := rcBlk E2
  have z2 := E2.lt
  go_wp2_with fail
  refine (hasEv_any _ _).mono ?_
  rintro e w3 ⟨rfl, rfl⟩
  rw [he]
  obtain ⟨i0, hi0, hz0, hz1, hz2⟩ := info_parts u8_info
  go_wp2_with fail
  have R1 := Reads.of_own (new_row (w2.alloc (.cells #[.int .i64 a, .int .i64 b, .int .i64 c, .int .i64 d, .int .i64 e, .int .i64 f] 27)) 3 [.int .i64 a, .int .i64 b, .int .i64 c, .int .i64 d, .int .i64 e, .int .i64 f] _ rfl (by simp [maxLen]))
  simp only [World.size_alloc] at R1
  refine ((HP2 _ _ _ _ _ R1 (by simp) (by simp) (by simp)).out).mono ?_
  clear R1
  rintro e w3 ⟨v2, rfl, o2, b2⟩
  have o1 := own_below ((o1'.alloc (.cells #[.int .i64 a, .int .i64 b, .int .i64 c, .int .i64 d, .int .i64 e, .int .i64 f] 27)).alloc (.cells #[.int .i64 a, .int .i64 b, .int .i64 c, .int .i64 d, .int .i64 e, .int .i64 f] 3)) b2 (Nat.le_refl _)
  have bel3 := bel2.trans ((((Below.refl _ _).alloc (Nat.le_refl _) _).alloc (by simp) _).trans (b2.mono (by simp; omega)) |>.mono bel2.size)
  simp only [List.length_cons, List.length_nil, Nat.reduceAdd, Nat.reduceMul] at o2
  obtain ⟨A2, c2, rfl, _, _⟩ := own_shape o2
  have r2 := Reads.of_own o2
  have hx2 := one_nums .u8 (bytesOf [a, b, c, d, e, f])
  clear b2 o2 o1' E2 bel2 x0 x1 x2 x3 x4 x5 x6 x7 x8 x9 z2 HP2
  have hsz := bel3.size
  have ge := own_block_ge o1
  have hlen := recBytes_length ⟨k, q, ep, p, ⟨a, b, c, d, e, f⟩⟩
  rw [if_pos (by simp only; rw [he])] at hlen
  have FIN : ∀ v3 w4, w4.ownsRow w.heap.size 5 1 v3 (16 + 24) ((bytesOf [k, q, ep, p]).map (Value.int .u8) ++ (bytesOf [a, b, c, d, e, f]).map (Value.int .u8)) → w3.grownBy w4 v1.ownBlock → EncPost w ⟨k, q, ep, p, ⟨a, b, c, d, e, f⟩⟩ (.returned (.tuple #[v3, .int .i64 0])) w4 := fun v3 w4 o3 g3 => ⟨v3, rfl, by rw [hlen, HB.out, List.map_append]; exact o3, bel3.grown g3 hsz ge⟩
  generalize EncPost w ⟨k, q, ep, p, ⟨a, b, c, d, e, f⟩⟩ = POST at *
  have FH := Lib.hid FIN
  clear FIN hlen HB ge
  generalize (bytesOf [k, q, ep, p]).map (Value.int .u8) = xs at *
  generalize (bytesOf [a, b, c, d, e, f]).map (Value.int .u8) = ys at *
  go_wp2_with (at_builtin; refine wpList_append_any _ rfl _ _ _ rfl w.heap.size 5 i0 _ 1 1 Try.underlying31 hi0 hz0 hz1 hz2 rfl (by omega) v1 16 xs rfl o1 w3.heap.size A2 24 c2 ys rfl r2 hx2 (by simp only [maxLen]; omega) (by omega) hsz ?_; intro v3 w4 o3 g3 at3)
  exact FH.out _ _ o3 g3

/-- 'pack.Encode' at a record that may be -/
theorem encode_yes (r : Rc) (w : World) (h : r.check = 0) : Calls Try.prog 14 #[r.val] w (EncPost w r) := by
  obtain ⟨k, q, ep, p, ⟨a, b, c, d, e, f⟩⟩ := r
  cases he : hasEv k with
  | true => exact encode_ev k q ep p a b c d e f w h he
  | false => exact encode_no k q ep p a b c d e f w h he

end Go.Proofs.Ytcgamaponeglhaa
