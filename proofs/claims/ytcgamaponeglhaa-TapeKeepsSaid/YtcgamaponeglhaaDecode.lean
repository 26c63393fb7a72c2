/- 'pack.Decode'. -/
import Derived.Test.YtcgamaponeglhaaDec
namespace Go.Proofs.Ytcgamaponeglhaa
open Go.RowKit

/-- a record of numbers -/
def ofNums (l : List Int) : Rc := ⟨l.getD 0 0, l.getD 1 0, l.getD 2 0, l.getD 3 0, ⟨l.getD 4 0, l.getD 5 0, l.getD 6 0, l.getD 7 0, l.getD 8 0, l.getD 9 0⟩⟩

/-- what Decode's loop comes to: the code (0: none), the numbers, the bytes that are left -/
def decGo : Nat → List Int → List Int → Int × List Int × List Int
  | 0, acc, zs => (0, acc, zs)
  | f + 1, acc, zs =>
    if acc.length = 4 ∧ hasEv (acc.getD 0 0) = false then (0, acc, zs)
    else if zs.length < 4 then (4, [], [])
    else if valOf (zs.take 4) ≤ 2147483647 then decGo f (acc ++ [valOf (zs.take 4)]) (zs.drop 4) else (2, [], [])

def Rc.zero : Rc := ⟨0, 0, 0, 0, Ev.zero⟩
/-- what Decode answers -/
def decEnd (t : Int × List Int × List Int) : Int × Rc :=
  if t.1 = 0 then (if t.2.2 = [] ∧ (ofNums t.2.1).check = 0 then (0, ofNums t.2.1) else (3, Rc.zero)) else (t.1, Rc.zero)
def decode (zs : List Int) : Int × Rc := decEnd (decGo 10 [] zs)

theorem decGo_stop {f : Nat} {acc zs : List Int} (h : acc.length = 4) (h2 : hasEv (acc.getD 0 0) = false) : decGo (f + 1) acc zs = (0, acc, zs) := by
  unfold decGo; rw [if_pos ⟨h, h2⟩]
theorem decGo_short {f : Nat} {acc zs : List Int} (h : ¬ (acc.length = 4 ∧ hasEv (acc.getD 0 0) = false)) (h2 : zs.length < 4) : decGo (f + 1) acc zs = (4, [], []) := by
  unfold decGo; rw [if_neg h, if_pos h2]
theorem decGo_range {f : Nat} {acc zs : List Int} (h : ¬ (acc.length = 4 ∧ hasEv (acc.getD 0 0) = false)) (h2 : 4 ≤ zs.length) (h3 : ¬ valOf (zs.take 4) ≤ 2147483647) : decGo (f + 1) acc zs = (2, [], []) := by
  unfold decGo; rw [if_neg h, if_neg (by omega), if_neg h3]
theorem decGo_more {f : Nat} {acc zs : List Int} (h : ¬ (acc.length = 4 ∧ hasEv (acc.getD 0 0) = false)) (h2 : 4 ≤ zs.length) (h3 : valOf (zs.take 4) ≤ 2147483647) :
    decGo (f + 1) acc zs = decGo f (acc ++ [valOf (zs.take 4)]) (zs.drop 4) := by
  rw [decGo]; rw [if_neg h, if_neg (by omega), if_pos h3]

theorem ofNums_set (v : Int) : ∀ (k : Nat) (acc : List Int), k < 10 → acc.length = k → (ofNums acc).cells.setIfInBounds k (.int .i64 v) = (ofNums (acc ++ [v])).cells := by
  intro k acc hk hl
  match acc, hl with
  | [], hl | [_], hl | [_, _], hl | [_, _, _], hl | [_, _, _, _], hl | [_, _, _, _, _], hl | [_, _, _, _, _, _], hl | [_, _, _, _, _, _, _], hl | [_, _, _, _, _, _, _, _], hl | [_, _, _, _, _, _, _, _, _], hl => simp at hl; subst hl; rfl
  | _ :: _ :: _ :: _ :: _ :: _ :: _ :: _ :: _ :: _ :: _, hl => simp at hl; omega

def DecPost (w : World) (d : Int × Rc) (e : Ending) (w' : World) : Prop := e = .returned (.tuple #[d.2.val, .int .i64 d.1]) ∧ Below w.heap.size w w'

/-- what holds ahead of round k -/
structure DecAt (w : World) (T : Int × List Int × List Int) (B k : Nat) (acc zs : List Int) (A : Option Addr) (n c : Nat) (wr : World) : Prop where
  len : acc.length = k
  go : decGo (10 - k) acc zs = T
  nc : n ≤ c
  cb : c ≤ 9223372036854775807
  rd : Reads wr B 1 A n (zs.map (Value.int .u8))
  bd : ∀ z ∈ zs, 0 ≤ z ∧ z ≤ 255
  blk : Blk wr w.heap.size 29 (ofNums acc).cells
  err : Blk wr (w.heap.size + 1) 32 #[.int .i64 0]
  bel : Below w.heap.size w wr
theorem DecAt.zl {w : World} {T : Int × List Int × List Int} {B k : Nat} {acc zs : List Int} {A : Option Addr} {n c : Nat} {wr : World} (h : DecAt w T B k acc zs A n c wr) : zs.length = n := by simpa using h.rd.1
theorem DecAt.next {w : World} {T : Int × List Int × List Int} {B k : Nat} {acc zs : List Int} {A : Option Addr} {n c : Nat} {wr : World} (h : DecAt w T B k acc zs A n c wr) (hk : k < 10)
    (h4 : ¬ (acc.length = 4 ∧ hasEv (acc.getD 0 0) = false)) (hn : 4 ≤ n) (hv : valOf (zs.take 4) ≤ 2147483647) {A' : Option Addr} {w1 : World} (hr : Reads w1 B 1 A' (n - 4) ((zs.drop 4).map (Value.int .u8))) (hb : Below wr.heap.size wr w1) (hB : B ≤ w.heap.size) :
    DecAt w T B (k + 1) (acc ++ [valOf (zs.take 4)]) (zs.drop 4) A' (n - 4) (c - 4) (w1.setCell ⟨w.heap.size, k, none⟩ (.int .i64 (valOf (zs.take 4)))) := by
  have hlen := h.zl
  refine ⟨by simp [h.len], ?_, by have := h.nc; omega, by have := h.cb; omega, hr.setCell hB _, fun z hz => h.bd z (List.mem_of_mem_drop hz), ?_, (h.err.below hb h.err.lt).far (by simp) _, (h.bel.trans (hb.mono h.bel.size)).setCell (Nat.le_refl _) _⟩
  · rw [← h.go, show 10 - k = (10 - (k + 1)) + 1 by omega, decGo_more h4 (by omega) hv]
  · rw [← ofNums_set _ k acc hk h.len]
    exact (h.blk.below hb h.blk.lt).set_ k _

theorem decEnd_more {acc zs : List Int} (h : zs ≠ []) : decEnd (0, acc, zs) = (3, Rc.zero) := by
  unfold decEnd; rw [if_pos rfl, if_neg (fun h2 => h h2.1)]
theorem decEnd_bad {acc zs : List Int} (h : ¬ (ofNums acc).check = 0) : decEnd (0, acc, zs) = (3, Rc.zero) := by
  unfold decEnd; rw [if_pos rfl, if_neg (fun h2 => h h2.2)]
theorem decEnd_ok {acc zs : List Int} (h : zs = []) (h2 : (ofNums acc).check = 0) : decEnd (0, acc, zs) = (0, ofNums acc) := by
  unfold decEnd; rw [if_pos rfl, if_pos ⟨h, h2⟩]

/-- behind the door: what the call gives -/
theorem door_threw {w wr w2 : World} {code : Int} (hb : Below w.heap.size w wr) (hc : Caught w.heap.size code wr w2) : Below w.heap.size w w2 := hb.trans hc.2.2

set_option maxRecDepth 100000 in
set_option maxHeartbeats 4000000 in
theorem decode_any (A : Option Addr) (n c B : Nat) (zs : List Int) (w : World) (h : Reads w B 1 A n (zs.map (Value.int .u8))) (hB : B ≤ w.heap.size) (hn : n ≤ c) (hc : c ≤ 9223372036854775807) (hz : ∀ z ∈ zs, 0 ≤ z ∧ z ≤ 255) :
    Calls Try.prog 16 #[.slice A n c] w (DecPost w (decode zs)) := by
  have hmf : ∀ (fn : Fn) (first cap : Array Value) (w : World), (Instr.makeFunc fn first cap).run Try.prog w = .ok (.func fn first cap) w := fun _ _ _ _ => rfl
  obtain ⟨T, hT⟩ : ∃ T, decGo 10 [] zs = T := ⟨_, rfl⟩
  have HD := Lib.hid (show decode zs = decEnd T by unfold decode; rw [hT])
  have AT0 : ∀ wr, Blk wr w.heap.size 29 (ofNums []).cells → Blk wr (w.heap.size + 1) 32 #[.int .i64 0] → Below w.heap.size w wr → DecAt w T B 0 [] zs A n c wr :=
    fun wr h1 h2 h3 => ⟨rfl, hT, hn, hc, h.below (h3.mono hB), hz, h1, h2, h3⟩
  have H0 := Lib.hid AT0
  have FIN : ∀ (W : World) (d : Int × Rc) (hd : decEnd T = d), Below w.heap.size w W → DecPost w (decode zs) (.returned (.tuple #[d.2.val, .int .i64 d.1])) W := fun W d hd hb => by rw [HD.out, hd]; exact ⟨rfl, hb⟩
  have FH0 := Lib.hid FIN
  clear FIN HD AT0 hT h hz hn hc
  generalize DecPost w (decode zs) = POST at *
  go_enter_defers Try.func16, Try.ntmps16
  go_wp2
  go_loopw [0, 26] (fun s0 s26 wr => ∃ (k : Nat) (acc zs : List Int) (A : Option Addr) (n c : Nat), k ≤ 10 ∧ s26 = .int .i64 k ∧ s0 = .slice A n c ∧ DecAt w T B k acc zs A n c wr) (fun _ s26 _ => 10 - (intOf s26).toNat)
  case atStart =>
    have e2 := Blk.new (w.alloc (.cells (ofNums []).cells 29)) 32 #[.int .i64 0]
    rw [World.size_alloc] at e2
    exact ⟨0, [], zs, A, n, c, by omega, rfl, rfl, H0.out _ ((Blk.new w 29 (ofNums []).cells).alloc _) e2 (((Below.refl _ _).alloc (Nat.le_refl _) _).alloc (by simp) _)⟩
  case round =>
    clear H0
    obtain ⟨k, acc, zs, A, n, c, hk, rfl, rfl, H⟩ := hrel
    have hzl := H.zl
    have hnc := H.nc
    have hlen := H.len
    obtain ⟨x0, x1, x2, x3, x4, x5, x6, x7, x8, x9⟩ := rcBlk H.blk
    have y0 := H.err.cell 0
    have fB := H.blk.frozen
    have zE := H.err.lt
    rcases (show k = 0 ∨ k = 1 ∨ k = 2 ∨ k = 3 ∨ k = 4 ∨ k = 5 ∨ k = 6 ∨ k = 7 ∨ k = 8 ∨ k = 9 ∨ k = 10 by omega) with rfl | rfl | rfl | rfl | rfl | rfl | rfl | rfl | rfl | rfl | rfl
    · have i0 : ∀ W : World, (Instr.index 71 (.agg #[.pointer (some ⟨w.heap.size, 0, none⟩), .pointer (some ⟨w.heap.size, 1, none⟩), .pointer (some ⟨w.heap.size, 2, none⟩), .pointer (some ⟨w.heap.size, 3, none⟩), .pointer (some ⟨w.heap.size, 4, none⟩), .pointer (some ⟨w.heap.size, 5, none⟩), .pointer (some ⟨w.heap.size, 6, none⟩), .pointer (some ⟨w.heap.size, 7, none⟩), .pointer (some ⟨w.heap.size, 8, none⟩), .pointer (some ⟨w.heap.size, 9, none⟩)]) (.int .i64 0)).run Try.prog W = .ok (.pointer (some ⟨w.heap.size, 0, none⟩)) W := fun _ => by kernel_rfl
      by_cases h4 : n < 4
      · have FH := Lib.hid (fun (W : World) (hb : Below w.heap.size w W) => FH0.out W (4, Rc.zero) (by rw [← H.go, decGo_short (by omega) (by omega)]; rfl) hb)
        clear FH0
        go_wp2_with fail
        refine (tk_short A n c _ h4).mono ?_
        rintro e w1 ⟨rfl, rfl⟩
        go_wp2
        refine leaves_cons (f := 30) (args := #[.pointer (some ⟨w.heap.size, 0, none⟩), .pointer (some ⟨w.heap.size + 1, 0, none⟩)]) (by simp) (by simp [go_sem]) ?_
        refine (catch_throw w.heap.size 4 _ 0 _ H.blk H.err).mono ?_
        rintro e u' w9 ⟨rfl, rfl, hcc⟩
        have hbl := door_threw H.bel hcc
        obtain ⟨g0, g1, g2, g3, g4, g5, g6, g7, g8, g9⟩ := rcBlk hcc.1
        have gE := hcc.2.1.cell 0
        have hfin := FH.out _ hbl
        clear FH
        simp [Leaves, settle, results, Try.results16, go_sem, g0, g1, g2, g3, g4, g5, g6, g7, g8, g9, gE]
        exact hfin
      · by_cases hv : valOf (zs.take 4) ≤ 2147483647
        · have hN := Lib.hid (fun A' w1 hr hb => H.next (by omega) (by omega) (by omega) hv (A' := A') (w1 := w1) hr hb hB)
          have CT := Lib.hid (tk_ok A n c B zs wr H.rd (by omega) hnc H.cb H.bd hv)
          have eB := H.blk
          have eE := H.err
          clear FH0 H hlen hzl hB
          generalize valOf (zs.take 4) = v at *
          go_wp2_with fail
          refine CT.out.mono ?_
          rintro e w1 ⟨A2, rfl, hr2, hb1⟩
          have hM := hN.out A2 w1 hr2 hb1
          have gB := eB.below hb1 eB.lt
          have fB1 := gB.frozen
          clear x0 x1 x2 x3 x4 x5 x6 x7 x8 x9 fB y0 hN CT hr2 hb1 eB eE zE
          obtain ⟨x0, x1, x2, x3, x4, x5, x6, x7, x8, x9⟩ := rcBlk gB
          have HM := Lib.hid hM
          clear hM gB
          go_wp2
          go_roundw
          case rel => exact ⟨0 + 1, _, _, _, _, _, by omega, rfl, rfl, HM.out⟩
          case measure => simp [intOf]
        · have FH := Lib.hid (fun (W : World) (hb : Below w.heap.size w W) => FH0.out W (2, Rc.zero) (by rw [← H.go, decGo_range (by omega) (by omega) hv]; rfl) hb)
          clear FH0
          have CT := Lib.hid (tk_range A n c B zs wr H.rd (by omega) hnc H.bd hv)
          go_wp2_with fail
          refine CT.out.mono ?_
          rintro e w1 ⟨rfl, rfl⟩
          go_wp2
          refine leaves_cons (f := 30) (args := #[.pointer (some ⟨w.heap.size, 0, none⟩), .pointer (some ⟨w.heap.size + 1, 0, none⟩)]) (by simp) (by simp [go_sem]) ?_
          refine (catch_throw w.heap.size 2 _ 0 _ H.blk H.err).mono ?_
          rintro e u' w9 ⟨rfl, rfl, hcc⟩
          have hbl := door_threw H.bel hcc
          obtain ⟨g0, g1, g2, g3, g4, g5, g6, g7, g8, g9⟩ := rcBlk hcc.1
          have gE := hcc.2.1.cell 0
          have hfin := FH.out _ hbl
          clear FH
          simp [Leaves, settle, results, Try.results16, go_sem, g0, g1, g2, g3, g4, g5, g6, g7, g8, g9, gE]
          exact hfin
    · have i0 : ∀ W : World, (Instr.index 71 (.agg #[.pointer (some ⟨w.heap.size, 0, none⟩), .pointer (some ⟨w.heap.size, 1, none⟩), .pointer (some ⟨w.heap.size, 2, none⟩), .pointer (some ⟨w.heap.size, 3, none⟩), .pointer (some ⟨w.heap.size, 4, none⟩), .pointer (some ⟨w.heap.size, 5, none⟩), .pointer (some ⟨w.heap.size, 6, none⟩), .pointer (some ⟨w.heap.size, 7, none⟩), .pointer (some ⟨w.heap.size, 8, none⟩), .pointer (some ⟨w.heap.size, 9, none⟩)]) (.int .i64 1)).run Try.prog W = .ok (.pointer (some ⟨w.heap.size, 1, none⟩)) W := fun _ => by kernel_rfl
      by_cases h4 : n < 4
      · have FH := Lib.hid (fun (W : World) (hb : Below w.heap.size w W) => FH0.out W (4, Rc.zero) (by rw [← H.go, decGo_short (by omega) (by omega)]; rfl) hb)
        clear FH0
        go_wp2_with fail
        refine (tk_short A n c _ h4).mono ?_
        rintro e w1 ⟨rfl, rfl⟩
        go_wp2
        refine leaves_cons (f := 30) (args := #[.pointer (some ⟨w.heap.size, 0, none⟩), .pointer (some ⟨w.heap.size + 1, 0, none⟩)]) (by simp) (by simp [go_sem]) ?_
        refine (catch_throw w.heap.size 4 _ 0 _ H.blk H.err).mono ?_
        rintro e u' w9 ⟨rfl, rfl, hcc⟩
        have hbl := door_threw H.bel hcc
        obtain ⟨g0, g1, g2, g3, g4, g5, g6, g7, g8, g9⟩ := rcBlk hcc.1
        have gE := hcc.2.1.cell 0
        have hfin := FH.out _ hbl
        clear FH
        simp [Leaves, settle, results, Try.results16, go_sem, g0, g1, g2, g3, g4, g5, g6, g7, g8, g9, gE]
        exact hfin
      · by_cases hv : valOf (zs.take 4) ≤ 2147483647
        · have hN := Lib.hid (fun A' w1 hr hb => H.next (by omega) (by omega) (by omega) hv (A' := A') (w1 := w1) hr hb hB)
          have CT := Lib.hid (tk_ok A n c B zs wr H.rd (by omega) hnc H.cb H.bd hv)
          have eB := H.blk
          have eE := H.err
          clear FH0 H hlen hzl hB
          generalize valOf (zs.take 4) = v at *
          go_wp2_with fail
          refine CT.out.mono ?_
          rintro e w1 ⟨A2, rfl, hr2, hb1⟩
          have hM := hN.out A2 w1 hr2 hb1
          have gB := eB.below hb1 eB.lt
          have fB1 := gB.frozen
          clear x0 x1 x2 x3 x4 x5 x6 x7 x8 x9 fB y0 hN CT hr2 hb1 eB eE zE
          obtain ⟨x0, x1, x2, x3, x4, x5, x6, x7, x8, x9⟩ := rcBlk gB
          have HM := Lib.hid hM
          clear hM gB
          go_wp2
          go_roundw
          case rel => exact ⟨1 + 1, _, _, _, _, _, by omega, rfl, rfl, HM.out⟩
          case measure => simp [intOf]
        · have FH := Lib.hid (fun (W : World) (hb : Below w.heap.size w W) => FH0.out W (2, Rc.zero) (by rw [← H.go, decGo_range (by omega) (by omega) hv]; rfl) hb)
          clear FH0
          have CT := Lib.hid (tk_range A n c B zs wr H.rd (by omega) hnc H.bd hv)
          go_wp2_with fail
          refine CT.out.mono ?_
          rintro e w1 ⟨rfl, rfl⟩
          go_wp2
          refine leaves_cons (f := 30) (args := #[.pointer (some ⟨w.heap.size, 0, none⟩), .pointer (some ⟨w.heap.size + 1, 0, none⟩)]) (by simp) (by simp [go_sem]) ?_
          refine (catch_throw w.heap.size 2 _ 0 _ H.blk H.err).mono ?_
          rintro e u' w9 ⟨rfl, rfl, hcc⟩
          have hbl := door_threw H.bel hcc
          obtain ⟨g0, g1, g2, g3, g4, g5, g6, g7, g8, g9⟩ := rcBlk hcc.1
          have gE := hcc.2.1.cell 0
          have hfin := FH.out _ hbl
          clear FH
          simp [Leaves, settle, results, Try.results16, go_sem, g0, g1, g2, g3, g4, g5, g6, g7, g8, g9, gE]
          exact hfin
    · have i0 : ∀ W : World, (Instr.index 71 (.agg #[.pointer (some ⟨w.heap.size, 0, none⟩), .pointer (some ⟨w.heap.size, 1, none⟩), .pointer (some ⟨w.heap.size, 2, none⟩), .pointer (some ⟨w.heap.size, 3, none⟩), .pointer (some ⟨w.heap.size, 4, none⟩), .pointer (some ⟨w.heap.size, 5, none⟩), .pointer (some ⟨w.heap.size, 6, none⟩), .pointer (some ⟨w.heap.size, 7, none⟩), .pointer (some ⟨w.heap.size, 8, none⟩), .pointer (some ⟨w.heap.size, 9, none⟩)]) (.int .i64 2)).run Try.prog W = .ok (.pointer (some ⟨w.heap.size, 2, none⟩)) W := fun _ => by kernel_rfl
      by_cases h4 : n < 4
      · have FH := Lib.hid (fun (W : World) (hb : Below w.heap.size w W) => FH0.out W (4, Rc.zero) (by rw [← H.go, decGo_short (by omega) (by omega)]; rfl) hb)
        clear FH0
        go_wp2_with fail
        refine (tk_short A n c _ h4).mono ?_
        rintro e w1 ⟨rfl, rfl⟩
        go_wp2
        refine leaves_cons (f := 30) (args := #[.pointer (some ⟨w.heap.size, 0, none⟩), .pointer (some ⟨w.heap.size + 1, 0, none⟩)]) (by simp) (by simp [go_sem]) ?_
        refine (catch_throw w.heap.size 4 _ 0 _ H.blk H.err).mono ?_
        rintro e u' w9 ⟨rfl, rfl, hcc⟩
        have hbl := door_threw H.bel hcc
        obtain ⟨g0, g1, g2, g3, g4, g5, g6, g7, g8, g9⟩ := rcBlk hcc.1
        have gE := hcc.2.1.cell 0
        have hfin := FH.out _ hbl
        clear FH
        simp [Leaves, settle, results, Try.results16, go_sem, g0, g1, g2, g3, g4, g5, g6, g7, g8, g9, gE]
        exact hfin
      · by_cases hv : valOf (zs.take 4) ≤ 2147483647
        · have hN := Lib.hid (fun A' w1 hr hb => H.next (by omega) (by omega) (by omega) hv (A' := A') (w1 := w1) hr hb hB)
          have CT := Lib.hid (tk_ok A n c B zs wr H.rd (by omega) hnc H.cb H.bd hv)
          have eB := H.blk
          have eE := H.err
          clear FH0 H hlen hzl hB
          generalize valOf (zs.take 4) = v at *
          go_wp2_with fail
          refine CT.out.mono ?_
          rintro e w1 ⟨A2, rfl, hr2, hb1⟩
          have hM := hN.out A2 w1 hr2 hb1
          have gB := eB.below hb1 eB.lt
          have fB1 := gB.frozen
          clear x0 x1 x2 x3 x4 x5 x6 x7 x8 x9 fB y0 hN CT hr2 hb1 eB eE zE
          obtain ⟨x0, x1, x2, x3, x4, x5, x6, x7, x8, x9⟩ := rcBlk gB
          have HM := Lib.hid hM
          clear hM gB
          go_wp2
          go_roundw
          case rel => exact ⟨2 + 1, _, _, _, _, _, by omega, rfl, rfl, HM.out⟩
          case measure => simp [intOf]
        · have FH := Lib.hid (fun (W : World) (hb : Below w.heap.size w W) => FH0.out W (2, Rc.zero) (by rw [← H.go, decGo_range (by omega) (by omega) hv]; rfl) hb)
          clear FH0
          have CT := Lib.hid (tk_range A n c B zs wr H.rd (by omega) hnc H.bd hv)
          go_wp2_with fail
          refine CT.out.mono ?_
          rintro e w1 ⟨rfl, rfl⟩
          go_wp2
          refine leaves_cons (f := 30) (args := #[.pointer (some ⟨w.heap.size, 0, none⟩), .pointer (some ⟨w.heap.size + 1, 0, none⟩)]) (by simp) (by simp [go_sem]) ?_
          refine (catch_throw w.heap.size 2 _ 0 _ H.blk H.err).mono ?_
          rintro e u' w9 ⟨rfl, rfl, hcc⟩
          have hbl := door_threw H.bel hcc
          obtain ⟨g0, g1, g2, g3, g4, g5, g6, g7, g8, g9⟩ := rcBlk hcc.1
          have gE := hcc.2.1.cell 0
          have hfin := FH.out _ hbl
          clear FH
          simp [Leaves, settle, results, Try.results16, go_sem, g0, g1, g2, g3, g4, g5, g6, g7, g8, g9, gE]
          exact hfin
    · have i0 : ∀ W : World, (Instr.index 71 (.agg #[.pointer (some ⟨w.heap.size, 0, none⟩), .pointer (some ⟨w.heap.size, 1, none⟩), .pointer (some ⟨w.heap.size, 2, none⟩), .pointer (some ⟨w.heap.size, 3, none⟩), .pointer (some ⟨w.heap.size, 4, none⟩), .pointer (some ⟨w.heap.size, 5, none⟩), .pointer (some ⟨w.heap.size, 6, none⟩), .pointer (some ⟨w.heap.size, 7, none⟩), .pointer (some ⟨w.heap.size, 8, none⟩), .pointer (some ⟨w.heap.size, 9, none⟩)]) (.int .i64 3)).run Try.prog W = .ok (.pointer (some ⟨w.heap.size, 3, none⟩)) W := fun _ => by kernel_rfl
      by_cases h4 : n < 4
      · have FH := Lib.hid (fun (W : World) (hb : Below w.heap.size w W) => FH0.out W (4, Rc.zero) (by rw [← H.go, decGo_short (by omega) (by omega)]; rfl) hb)
        clear FH0
        go_wp2_with fail
        refine (tk_short A n c _ h4).mono ?_
        rintro e w1 ⟨rfl, rfl⟩
        go_wp2
        refine leaves_cons (f := 30) (args := #[.pointer (some ⟨w.heap.size, 0, none⟩), .pointer (some ⟨w.heap.size + 1, 0, none⟩)]) (by simp) (by simp [go_sem]) ?_
        refine (catch_throw w.heap.size 4 _ 0 _ H.blk H.err).mono ?_
        rintro e u' w9 ⟨rfl, rfl, hcc⟩
        have hbl := door_threw H.bel hcc
        obtain ⟨g0, g1, g2, g3, g4, g5, g6, g7, g8, g9⟩ := rcBlk hcc.1
        have gE := hcc.2.1.cell 0
        have hfin := FH.out _ hbl
        clear FH
        simp [Leaves, settle, results, Try.results16, go_sem, g0, g1, g2, g3, g4, g5, g6, g7, g8, g9, gE]
        exact hfin
      · by_cases hv : valOf (zs.take 4) ≤ 2147483647
        · have hN := Lib.hid (fun A' w1 hr hb => H.next (by omega) (by omega) (by omega) hv (A' := A') (w1 := w1) hr hb hB)
          have CT := Lib.hid (tk_ok A n c B zs wr H.rd (by omega) hnc H.cb H.bd hv)
          have eB := H.blk
          have eE := H.err
          clear FH0 H hlen hzl hB
          generalize valOf (zs.take 4) = v at *
          go_wp2_with fail
          refine CT.out.mono ?_
          rintro e w1 ⟨A2, rfl, hr2, hb1⟩
          have hM := hN.out A2 w1 hr2 hb1
          have gB := eB.below hb1 eB.lt
          have fB1 := gB.frozen
          clear x0 x1 x2 x3 x4 x5 x6 x7 x8 x9 fB y0 hN CT hr2 hb1 eB eE zE
          obtain ⟨x0, x1, x2, x3, x4, x5, x6, x7, x8, x9⟩ := rcBlk gB
          have HM := Lib.hid hM
          clear hM gB
          go_wp2
          go_roundw
          case rel => exact ⟨3 + 1, _, _, _, _, _, by omega, rfl, rfl, HM.out⟩
          case measure => simp [intOf]
        · have FH := Lib.hid (fun (W : World) (hb : Below w.heap.size w W) => FH0.out W (2, Rc.zero) (by rw [← H.go, decGo_range (by omega) (by omega) hv]; rfl) hb)
          clear FH0
          have CT := Lib.hid (tk_range A n c B zs wr H.rd (by omega) hnc H.bd hv)
          go_wp2_with fail
          refine CT.out.mono ?_
          rintro e w1 ⟨rfl, rfl⟩
          go_wp2
          refine leaves_cons (f := 30) (args := #[.pointer (some ⟨w.heap.size, 0, none⟩), .pointer (some ⟨w.heap.size + 1, 0, none⟩)]) (by simp) (by simp [go_sem]) ?_
          refine (catch_throw w.heap.size 2 _ 0 _ H.blk H.err).mono ?_
          rintro e u' w9 ⟨rfl, rfl, hcc⟩
          have hbl := door_threw H.bel hcc
          obtain ⟨g0, g1, g2, g3, g4, g5, g6, g7, g8, g9⟩ := rcBlk hcc.1
          have gE := hcc.2.1.cell 0
          have hfin := FH.out _ hbl
          clear FH
          simp [Leaves, settle, results, Try.results16, go_sem, g0, g1, g2, g3, g4, g5, g6, g7, g8, g9, gE]
          exact hfin
    · cases hE : hasEv (ofNums acc).kind with
      | true =>
        have i0 : ∀ W : World, (Instr.index 71 (.agg #[.pointer (some ⟨w.heap.size, 0, none⟩), .pointer (some ⟨w.heap.size, 1, none⟩), .pointer (some ⟨w.heap.size, 2, none⟩), .pointer (some ⟨w.heap.size, 3, none⟩), .pointer (some ⟨w.heap.size, 4, none⟩), .pointer (some ⟨w.heap.size, 5, none⟩), .pointer (some ⟨w.heap.size, 6, none⟩), .pointer (some ⟨w.heap.size, 7, none⟩), .pointer (some ⟨w.heap.size, 8, none⟩), .pointer (some ⟨w.heap.size, 9, none⟩)]) (.int .i64 4)).run Try.prog W = .ok (.pointer (some ⟨w.heap.size, 4, none⟩)) W := fun _ => by kernel_rfl
        by_cases h4 : n < 4
        · have FH := Lib.hid (fun (W : World) (hb : Below w.heap.size w W) => FH0.out W (4, Rc.zero) (by rw [← H.go, decGo_short (fun hh => by have h2 : hasEv (ofNums acc).kind = false := hh.2; rw [hE] at h2; cases h2) (by omega)]; rfl) hb)
          clear FH0
          go_wp2_with fail
          refine (hasEv_any _ _).mono ?_
          rintro e w1 ⟨rfl, rfl⟩
          rw [hE]
          go_wp2_with fail
          refine (tk_short A n c _ h4).mono ?_
          rintro e w1 ⟨rfl, rfl⟩
          go_wp2
          refine leaves_cons (f := 30) (args := #[.pointer (some ⟨w.heap.size, 0, none⟩), .pointer (some ⟨w.heap.size + 1, 0, none⟩)]) (by simp) (by simp [go_sem]) ?_
          refine (catch_throw w.heap.size 4 _ 0 _ H.blk H.err).mono ?_
          rintro e u' w9 ⟨rfl, rfl, hcc⟩
          have hbl := door_threw H.bel hcc
          obtain ⟨g0, g1, g2, g3, g4, g5, g6, g7, g8, g9⟩ := rcBlk hcc.1
          have gE := hcc.2.1.cell 0
          have hfin := FH.out _ hbl
          clear FH
          simp [Leaves, settle, results, Try.results16, go_sem, g0, g1, g2, g3, g4, g5, g6, g7, g8, g9, gE]
          exact hfin
        · by_cases hv : valOf (zs.take 4) ≤ 2147483647
          · have hN := Lib.hid (fun A' w1 hr hb => H.next (by omega) (fun hh => by have h2 : hasEv (ofNums acc).kind = false := hh.2; rw [hE] at h2; cases h2) (by omega) hv (A' := A') (w1 := w1) hr hb hB)
            have CT := Lib.hid (tk_ok A n c B zs wr H.rd (by omega) hnc H.cb H.bd hv)
            have eB := H.blk
            have eE := H.err
            clear FH0 H hlen hzl hB
            generalize valOf (zs.take 4) = v at *
            go_wp2_with fail
            refine (hasEv_any _ _).mono ?_
            rintro e w1 ⟨rfl, rfl⟩
            rw [hE]
            go_wp2_with fail
            refine CT.out.mono ?_
            rintro e w1 ⟨A2, rfl, hr2, hb1⟩
            have hM := hN.out A2 w1 hr2 hb1
            have gB := eB.below hb1 eB.lt
            have fB1 := gB.frozen
            clear x0 x1 x2 x3 x4 x5 x6 x7 x8 x9 fB y0 hN CT hr2 hb1 eB eE zE
            obtain ⟨x0, x1, x2, x3, x4, x5, x6, x7, x8, x9⟩ := rcBlk gB
            have HM := Lib.hid hM
            clear hM gB
            go_wp2
            go_roundw
            case rel => exact ⟨4 + 1, _, _, _, _, _, by omega, rfl, rfl, HM.out⟩
            case measure => simp [intOf]
          · have FH := Lib.hid (fun (W : World) (hb : Below w.heap.size w W) => FH0.out W (2, Rc.zero) (by rw [← H.go, decGo_range (fun hh => by have h2 : hasEv (ofNums acc).kind = false := hh.2; rw [hE] at h2; cases h2) (by omega) hv]; rfl) hb)
            clear FH0
            have CT := Lib.hid (tk_range A n c B zs wr H.rd (by omega) hnc H.bd hv)
            go_wp2_with fail
            refine (hasEv_any _ _).mono ?_
            rintro e w1 ⟨rfl, rfl⟩
            rw [hE]
            go_wp2_with fail
            refine CT.out.mono ?_
            rintro e w1 ⟨rfl, rfl⟩
            go_wp2
            refine leaves_cons (f := 30) (args := #[.pointer (some ⟨w.heap.size, 0, none⟩), .pointer (some ⟨w.heap.size + 1, 0, none⟩)]) (by simp) (by simp [go_sem]) ?_
            refine (catch_throw w.heap.size 2 _ 0 _ H.blk H.err).mono ?_
            rintro e u' w9 ⟨rfl, rfl, hcc⟩
            have hbl := door_threw H.bel hcc
            obtain ⟨g0, g1, g2, g3, g4, g5, g6, g7, g8, g9⟩ := rcBlk hcc.1
            have gE := hcc.2.1.cell 0
            have hfin := FH.out _ hbl
            clear FH
            simp [Leaves, settle, results, Try.results16, go_sem, g0, g1, g2, g3, g4, g5, g6, g7, g8, g9, gE]
            exact hfin
      | false =>
        have i0 : ∀ W : World, (Instr.index 71 (.agg #[.pointer (some ⟨w.heap.size, 0, none⟩), .pointer (some ⟨w.heap.size, 1, none⟩), .pointer (some ⟨w.heap.size, 2, none⟩), .pointer (some ⟨w.heap.size, 3, none⟩), .pointer (some ⟨w.heap.size, 4, none⟩), .pointer (some ⟨w.heap.size, 5, none⟩), .pointer (some ⟨w.heap.size, 6, none⟩), .pointer (some ⟨w.heap.size, 7, none⟩), .pointer (some ⟨w.heap.size, 8, none⟩), .pointer (some ⟨w.heap.size, 9, none⟩)]) (.int .i64 4)).run Try.prog W = .ok (.pointer (some ⟨w.heap.size, 4, none⟩)) W := fun _ => by kernel_rfl
        have HT := Lib.hid (show decEnd T = decEnd (0, acc, zs) by rw [← H.go, decGo_stop H.len hE])
        by_cases hn0 : 0 < n
        · have FH := Lib.hid (fun (W : World) (hb : Below w.heap.size w W) => FH0.out W (3, Rc.zero) (by rw [HT.out]; exact decEnd_more (by intro h0; rw [h0] at hzl; simp at hzl; omega)) hb)
          clear FH0 HT
          go_wp2_with fail
          refine (hasEv_any _ _).mono ?_
          rintro e w1 ⟨rfl, rfl⟩
          rw [hE]
          go_wp2
          refine leaves_cons (f := 30) (args := #[.pointer (some ⟨w.heap.size, 0, none⟩), .pointer (some ⟨w.heap.size + 1, 0, none⟩)]) (by simp) (by simp [go_sem]) ?_
          refine (catch_throw w.heap.size 3 _ 0 _ H.blk H.err).mono ?_
          rintro e u' w9 ⟨rfl, rfl, hcc⟩
          have hbl := door_threw H.bel hcc
          obtain ⟨g0, g1, g2, g3, g4, g5, g6, g7, g8, g9⟩ := rcBlk hcc.1
          have gE := hcc.2.1.cell 0
          have hfin := FH.out _ hbl
          clear FH
          simp [Leaves, settle, results, Try.results16, go_sem, g0, g1, g2, g3, g4, g5, g6, g7, g8, g9, gE]
          exact hfin
        · have hz0 : zs = [] := List.eq_nil_of_length_eq_zero (by omega)
          have CR := fun W => Lib.hid (recCheck_any (ofNums acc).kind (ofNums acc).queue (ofNums acc).epoch (ofNums acc).peer (ofNums acc).ev.kind (ofNums acc).ev.prod (ofNums acc).ev.id (ofNums acc).ev.body (ofNums acc).ev.hep (ofNums acc).ev.hno W)
          change ∀ W, Hid (Calls Try.prog 27 #[.agg #[.int .i64 (ofNums acc).kind, .int .i64 (ofNums acc).queue, .int .i64 (ofNums acc).epoch, .int .i64 (ofNums acc).peer, .int .i64 (ofNums acc).ev.kind, .int .i64 (ofNums acc).ev.prod, .int .i64 (ofNums acc).ev.id, .int .i64 (ofNums acc).ev.body, .int .i64 (ofNums acc).ev.hep, .int .i64 (ofNums acc).ev.hno]] W (Puts W (.int .i64 (ofNums acc).check))) at CR
          have hn0' : ¬ (0 : Int) < (n : Int) := by omega
          by_cases hck : (ofNums acc).check = 0
          · have FH := Lib.hid (fun (W : World) (hb : Below w.heap.size w W) => FH0.out W (0, ofNums acc) (by rw [HT.out]; exact decEnd_ok hz0 hck) hb)
            rw [hck] at CR
            clear FH0 HT hck hz0
            go_wp2_with fail
            refine (hasEv_any _ _).mono ?_
            rintro e w1 ⟨rfl, rfl⟩
            rw [hE]
            go_wp2_with fail
            refine (CR _).out.mono ?_
            rintro e w1 ⟨rfl, hb1⟩
            have gB := H.blk.below hb1 H.blk.lt
            have gE := H.err.below hb1 H.err.lt
            have gL := H.bel.trans (hb1.mono H.bel.size)
            have fB1 := gB.frozen
            have fE1 := gE.frozen
            have zE1 := gE.lt
            clear x0 x1 x2 x3 x4 x5 x6 x7 x8 x9 fB y0 CR hb1 zE H
            obtain ⟨x0, x1, x2, x3, x4, x5, x6, x7, x8, x9⟩ := rcBlk gB
            have y0 := gE.cell 0
            generalize ofNums acc = r at *
            go_wp2
            rw [put10_eq]
            have D1 := putFrom_blk gB [.int .i64 r.kind, .int .i64 r.queue, .int .i64 r.epoch, .int .i64 r.peer, .int .i64 r.ev.kind, .int .i64 r.ev.prod, .int .i64 r.ev.id, .int .i64 r.ev.body, .int .i64 r.ev.hep, .int .i64 r.ev.hno] rfl
            have D2 := putFrom_far (g := w.heap.size) (g' := w.heap.size + 1) (by omega) [.int .i64 r.kind, .int .i64 r.queue, .int .i64 r.epoch, .int .i64 r.peer, .int .i64 r.ev.kind, .int .i64 r.ev.prod, .int .i64 r.ev.id, .int .i64 r.ev.body, .int .i64 r.ev.hep, .int .i64 r.ev.hno] 0 w1 gE
            have D3 := putFrom_below (Nat.le_refl w.heap.size) [.int .i64 r.kind, .int .i64 r.queue, .int .i64 r.epoch, .int .i64 r.peer, .int .i64 r.ev.kind, .int .i64 r.ev.prod, .int .i64 r.ev.id, .int .i64 r.ev.body, .int .i64 r.ev.hep, .int .i64 r.ev.hno] 0 w1 gL
            generalize putFrom w1 w.heap.size 0 _ = w2 at *
            have E1 : Blk (w2.setCell ⟨w.heap.size + 1, 0, none⟩ (.int .i64 0)) w.heap.size 29 r.cells := D1.far (by simp) _
            have E2 := D2.set_ 0 (.int .i64 0)
            have E3 := D3.setCell (p := ⟨w.heap.size + 1, 0, none⟩) (by simp) (.int .i64 0)
            generalize w2.setCell ⟨w.heap.size + 1, 0, none⟩ (.int .i64 0) = w3 at *
            refine leaves_cons (f := 30) (args := #[.pointer (some ⟨w.heap.size, 0, none⟩), .pointer (some ⟨w.heap.size + 1, 0, none⟩)]) (by simp) (by simp [go_sem]) ?_
            refine (catch_idle _ _ _).mono ?_
            rintro e u' w9 ⟨rfl, rfl, rfl⟩
            obtain ⟨g0, g1, g2, g3, g4, g5, g6, g7, g8, g9⟩ := rcBlk E1
            have gE0 := E2.cell 0
            have hfin := FH.out _ E3
            clear FH
            simp [Leaves, settle, results, Try.results16, go_sem, g0, g1, g2, g3, g4, g5, g6, g7, g8, g9, gE0]
            exact hfin
          · have FH := Lib.hid (fun (W : World) (hb : Below w.heap.size w W) => FH0.out W (3, Rc.zero) (by rw [HT.out]; exact decEnd_bad hck) hb)
            clear FH0 HT hz0
            generalize (ofNums acc).check = cv at *
            have hcv : (cv != 0) = true := bne_iff_ne.2 hck
            have hcv2 : (cv == 0) = false := beq_eq_false_iff_ne.2 hck
            clear hck
            go_wp2_with fail
            refine (hasEv_any _ _).mono ?_
            rintro e w1 ⟨rfl, rfl⟩
            rw [hE]
            go_wp2_with fail
            refine (CR _).out.mono ?_
            rintro e w1 ⟨rfl, hb1⟩
            have gB := H.blk.below hb1 H.blk.lt
            have gE := H.err.below hb1 H.err.lt
            have gL := H.bel.trans (hb1.mono H.bel.size)
            clear x0 x1 x2 x3 x4 x5 x6 x7 x8 x9 fB y0 CR hb1 zE H
            go_wp2
            refine leaves_cons (f := 30) (args := #[.pointer (some ⟨w.heap.size, 0, none⟩), .pointer (some ⟨w.heap.size + 1, 0, none⟩)]) (by simp) (by simp [go_sem]) ?_
            refine (catch_throw w.heap.size 3 _ 0 _ gB gE).mono ?_
            rintro e u' w9 ⟨rfl, rfl, hcc⟩
            have hbl := door_threw gL hcc
            obtain ⟨g0, g1, g2, g3, g4, g5, g6, g7, g8, g9⟩ := rcBlk hcc.1
            have gE := hcc.2.1.cell 0
            have hfin := FH.out _ hbl
            clear FH
            simp [Leaves, settle, results, Try.results16, go_sem, g0, g1, g2, g3, g4, g5, g6, g7, g8, g9, gE]
            exact hfin
    · have i0 : ∀ W : World, (Instr.index 71 (.agg #[.pointer (some ⟨w.heap.size, 0, none⟩), .pointer (some ⟨w.heap.size, 1, none⟩), .pointer (some ⟨w.heap.size, 2, none⟩), .pointer (some ⟨w.heap.size, 3, none⟩), .pointer (some ⟨w.heap.size, 4, none⟩), .pointer (some ⟨w.heap.size, 5, none⟩), .pointer (some ⟨w.heap.size, 6, none⟩), .pointer (some ⟨w.heap.size, 7, none⟩), .pointer (some ⟨w.heap.size, 8, none⟩), .pointer (some ⟨w.heap.size, 9, none⟩)]) (.int .i64 5)).run Try.prog W = .ok (.pointer (some ⟨w.heap.size, 5, none⟩)) W := fun _ => by kernel_rfl
      by_cases h4 : n < 4
      · have FH := Lib.hid (fun (W : World) (hb : Below w.heap.size w W) => FH0.out W (4, Rc.zero) (by rw [← H.go, decGo_short (by omega) (by omega)]; rfl) hb)
        clear FH0
        go_wp2_with fail
        refine (tk_short A n c _ h4).mono ?_
        rintro e w1 ⟨rfl, rfl⟩
        go_wp2
        refine leaves_cons (f := 30) (args := #[.pointer (some ⟨w.heap.size, 0, none⟩), .pointer (some ⟨w.heap.size + 1, 0, none⟩)]) (by simp) (by simp [go_sem]) ?_
        refine (catch_throw w.heap.size 4 _ 0 _ H.blk H.err).mono ?_
        rintro e u' w9 ⟨rfl, rfl, hcc⟩
        have hbl := door_threw H.bel hcc
        obtain ⟨g0, g1, g2, g3, g4, g5, g6, g7, g8, g9⟩ := rcBlk hcc.1
        have gE := hcc.2.1.cell 0
        have hfin := FH.out _ hbl
        clear FH
        simp [Leaves, settle, results, Try.results16, go_sem, g0, g1, g2, g3, g4, g5, g6, g7, g8, g9, gE]
        exact hfin
      · by_cases hv : valOf (zs.take 4) ≤ 2147483647
        · have hN := Lib.hid (fun A' w1 hr hb => H.next (by omega) (by omega) (by omega) hv (A' := A') (w1 := w1) hr hb hB)
          have CT := Lib.hid (tk_ok A n c B zs wr H.rd (by omega) hnc H.cb H.bd hv)
          have eB := H.blk
          have eE := H.err
          clear FH0 H hlen hzl hB
          generalize valOf (zs.take 4) = v at *
          go_wp2_with fail
          refine CT.out.mono ?_
          rintro e w1 ⟨A2, rfl, hr2, hb1⟩
          have hM := hN.out A2 w1 hr2 hb1
          have gB := eB.below hb1 eB.lt
          have fB1 := gB.frozen
          clear x0 x1 x2 x3 x4 x5 x6 x7 x8 x9 fB y0 hN CT hr2 hb1 eB eE zE
          obtain ⟨x0, x1, x2, x3, x4, x5, x6, x7, x8, x9⟩ := rcBlk gB
          have HM := Lib.hid hM
          clear hM gB
          go_wp2
          go_roundw
          case rel => exact ⟨5 + 1, _, _, _, _, _, by omega, rfl, rfl, HM.out⟩
          case measure => simp [intOf]
        · have FH := Lib.hid (fun (W : World) (hb : Below w.heap.size w W) => FH0.out W (2, Rc.zero) (by rw [← H.go, decGo_range (by omega) (by omega) hv]; rfl) hb)
          clear FH0
          have CT := Lib.hid (tk_range A n c B zs wr H.rd (by omega) hnc H.bd hv)
          go_wp2_with fail
          refine CT.out.mono ?_
          rintro e w1 ⟨rfl, rfl⟩
          go_wp2
          refine leaves_cons (f := 30) (args := #[.pointer (some ⟨w.heap.size, 0, none⟩), .pointer (some ⟨w.heap.size + 1, 0, none⟩)]) (by simp) (by simp [go_sem]) ?_
          refine (catch_throw w.heap.size 2 _ 0 _ H.blk H.err).mono ?_
          rintro e u' w9 ⟨rfl, rfl, hcc⟩
          have hbl := door_threw H.bel hcc
          obtain ⟨g0, g1, g2, g3, g4, g5, g6, g7, g8, g9⟩ := rcBlk hcc.1
          have gE := hcc.2.1.cell 0
          have hfin := FH.out _ hbl
          clear FH
          simp [Leaves, settle, results, Try.results16, go_sem, g0, g1, g2, g3, g4, g5, g6, g7, g8, g9, gE]
          exact hfin
    · have i0 : ∀ W : World, (Instr.index 71 (.agg #[.pointer (some ⟨w.heap.size, 0, none⟩), .pointer (some ⟨w.heap.size, 1, none⟩), .pointer (some ⟨w.heap.size, 2, none⟩), .pointer (some ⟨w.heap.size, 3, none⟩), .pointer (some ⟨w.heap.size, 4, none⟩), .pointer (some ⟨w.heap.size, 5, none⟩), .pointer (some ⟨w.heap.size, 6, none⟩), .pointer (some ⟨w.heap.size, 7, none⟩), .pointer (some ⟨w.heap.size, 8, none⟩), .pointer (some ⟨w.heap.size, 9, none⟩)]) (.int .i64 6)).run Try.prog W = .ok (.pointer (some ⟨w.heap.size, 6, none⟩)) W := fun _ => by kernel_rfl
      by_cases h4 : n < 4
      · have FH := Lib.hid (fun (W : World) (hb : Below w.heap.size w W) => FH0.out W (4, Rc.zero) (by rw [← H.go, decGo_short (by omega) (by omega)]; rfl) hb)
        clear FH0
        go_wp2_with fail
        refine (tk_short A n c _ h4).mono ?_
        rintro e w1 ⟨rfl, rfl⟩
        go_wp2
        refine leaves_cons (f := 30) (args := #[.pointer (some ⟨w.heap.size, 0, none⟩), .pointer (some ⟨w.heap.size + 1, 0, none⟩)]) (by simp) (by simp [go_sem]) ?_
        refine (catch_throw w.heap.size 4 _ 0 _ H.blk H.err).mono ?_
        rintro e u' w9 ⟨rfl, rfl, hcc⟩
        have hbl := door_threw H.bel hcc
        obtain ⟨g0, g1, g2, g3, g4, g5, g6, g7, g8, g9⟩ := rcBlk hcc.1
        have gE := hcc.2.1.cell 0
        have hfin := FH.out _ hbl
        clear FH
        simp [Leaves, settle, results, Try.results16, go_sem, g0, g1, g2, g3, g4, g5, g6, g7, g8, g9, gE]
        exact hfin
      · by_cases hv : valOf (zs.take 4) ≤ 2147483647
        · have hN := Lib.hid (fun A' w1 hr hb => H.next (by omega) (by omega) (by omega) hv (A' := A') (w1 := w1) hr hb hB)
          have CT := Lib.hid (tk_ok A n c B zs wr H.rd (by omega) hnc H.cb H.bd hv)
          have eB := H.blk
          have eE := H.err
          clear FH0 H hlen hzl hB
          generalize valOf (zs.take 4) = v at *
          go_wp2_with fail
          refine CT.out.mono ?_
          rintro e w1 ⟨A2, rfl, hr2, hb1⟩
          have hM := hN.out A2 w1 hr2 hb1
          have gB := eB.below hb1 eB.lt
          have fB1 := gB.frozen
          clear x0 x1 x2 x3 x4 x5 x6 x7 x8 x9 fB y0 hN CT hr2 hb1 eB eE zE
          obtain ⟨x0, x1, x2, x3, x4, x5, x6, x7, x8, x9⟩ := rcBlk gB
          have HM := Lib.hid hM
          clear hM gB
          go_wp2
          go_roundw
          case rel => exact ⟨6 + 1, _, _, _, _, _, by omega, rfl, rfl, HM.out⟩
          case measure => simp [intOf]
        · have FH := Lib.hid (fun (W : World) (hb : Below w.heap.size w W) => FH0.out W (2, Rc.zero) (by rw [← H.go, decGo_range (by omega) (by omega) hv]; rfl) hb)
          clear FH0
          have CT := Lib.hid (tk_range A n c B zs wr H.rd (by omega) hnc H.bd hv)
          go_wp2_with fail
          refine CT.out.mono ?_
          rintro e w1 ⟨rfl, rfl⟩
          go_wp2
          refine leaves_cons (f := 30) (args := #[.pointer (some ⟨w.heap.size, 0, none⟩), .pointer (some ⟨w.heap.size + 1, 0, none⟩)]) (by simp) (by simp [go_sem]) ?_
          refine (catch_throw w.heap.size 2 _ 0 _ H.blk H.err).mono ?_
          rintro e u' w9 ⟨rfl, rfl, hcc⟩
          have hbl := door_threw H.bel hcc
          obtain ⟨g0, g1, g2, g3, g4, g5, g6, g7, g8, g9⟩ := rcBlk hcc.1
          have gE := hcc.2.1.cell 0
          have hfin := FH.out _ hbl
          clear FH
          simp [Leaves, settle, results, Try.results16, go_sem, g0, g1, g2, g3, g4, g5, g6, g7, g8, g9, gE]
          exact hfin
    · have i0 : ∀ W : World, (Instr.index 71 (.agg #[.pointer (some ⟨w.heap.size, 0, none⟩), .pointer (some ⟨w.heap.size, 1, none⟩), .pointer (some ⟨w.heap.size, 2, none⟩), .pointer (some ⟨w.heap.size, 3, none⟩), .pointer (some ⟨w.heap.size, 4, none⟩), .pointer (some ⟨w.heap.size, 5, none⟩), .pointer (some ⟨w.heap.size, 6, none⟩), .pointer (some ⟨w.heap.size, 7, none⟩), .pointer (some ⟨w.heap.size, 8, none⟩), .pointer (some ⟨w.heap.size, 9, none⟩)]) (.int .i64 7)).run Try.prog W = .ok (.pointer (some ⟨w.heap.size, 7, none⟩)) W := fun _ => by kernel_rfl
      by_cases h4 : n < 4
      · have FH := Lib.hid (fun (W : World) (hb : Below w.heap.size w W) => FH0.out W (4, Rc.zero) (by rw [← H.go, decGo_short (by omega) (by omega)]; rfl) hb)
        clear FH0
        go_wp2_with fail
        refine (tk_short A n c _ h4).mono ?_
        rintro e w1 ⟨rfl, rfl⟩
        go_wp2
        refine leaves_cons (f := 30) (args := #[.pointer (some ⟨w.heap.size, 0, none⟩), .pointer (some ⟨w.heap.size + 1, 0, none⟩)]) (by simp) (by simp [go_sem]) ?_
        refine (catch_throw w.heap.size 4 _ 0 _ H.blk H.err).mono ?_
        rintro e u' w9 ⟨rfl, rfl, hcc⟩
        have hbl := door_threw H.bel hcc
        obtain ⟨g0, g1, g2, g3, g4, g5, g6, g7, g8, g9⟩ := rcBlk hcc.1
        have gE := hcc.2.1.cell 0
        have hfin := FH.out _ hbl
        clear FH
        simp [Leaves, settle, results, Try.results16, go_sem, g0, g1, g2, g3, g4, g5, g6, g7, g8, g9, gE]
        exact hfin
      · by_cases hv : valOf (zs.take 4) ≤ 2147483647
        · have hN := Lib.hid (fun A' w1 hr hb => H.next (by omega) (by omega) (by omega) hv (A' := A') (w1 := w1) hr hb hB)
          have CT := Lib.hid (tk_ok A n c B zs wr H.rd (by omega) hnc H.cb H.bd hv)
          have eB := H.blk
          have eE := H.err
          clear FH0 H hlen hzl hB
          generalize valOf (zs.take 4) = v at *
          go_wp2_with fail
          refine CT.out.mono ?_
          rintro e w1 ⟨A2, rfl, hr2, hb1⟩
          have hM := hN.out A2 w1 hr2 hb1
          have gB := eB.below hb1 eB.lt
          have fB1 := gB.frozen
          clear x0 x1 x2 x3 x4 x5 x6 x7 x8 x9 fB y0 hN CT hr2 hb1 eB eE zE
          obtain ⟨x0, x1, x2, x3, x4, x5, x6, x7, x8, x9⟩ := rcBlk gB
          have HM := Lib.hid hM
          clear hM gB
          go_wp2
          go_roundw
          case rel => exact ⟨7 + 1, _, _, _, _, _, by omega, rfl, rfl, HM.out⟩
          case measure => simp [intOf]
        · have FH := Lib.hid (fun (W : World) (hb : Below w.heap.size w W) => FH0.out W (2, Rc.zero) (by rw [← H.go, decGo_range (by omega) (by omega) hv]; rfl) hb)
          clear FH0
          have CT := Lib.hid (tk_range A n c B zs wr H.rd (by omega) hnc H.bd hv)
          go_wp2_with fail
          refine CT.out.mono ?_
          rintro e w1 ⟨rfl, rfl⟩
          go_wp2
          refine leaves_cons (f := 30) (args := #[.pointer (some ⟨w.heap.size, 0, none⟩), .pointer (some ⟨w.heap.size + 1, 0, none⟩)]) (by simp) (by simp [go_sem]) ?_
          refine (catch_throw w.heap.size 2 _ 0 _ H.blk H.err).mono ?_
          rintro e u' w9 ⟨rfl, rfl, hcc⟩
          have hbl := door_threw H.bel hcc
          obtain ⟨g0, g1, g2, g3, g4, g5, g6, g7, g8, g9⟩ := rcBlk hcc.1
          have gE := hcc.2.1.cell 0
          have hfin := FH.out _ hbl
          clear FH
          simp [Leaves, settle, results, Try.results16, go_sem, g0, g1, g2, g3, g4, g5, g6, g7, g8, g9, gE]
          exact hfin
    · have i0 : ∀ W : World, (Instr.index 71 (.agg #[.pointer (some ⟨w.heap.size, 0, none⟩), .pointer (some ⟨w.heap.size, 1, none⟩), .pointer (some ⟨w.heap.size, 2, none⟩), .pointer (some ⟨w.heap.size, 3, none⟩), .pointer (some ⟨w.heap.size, 4, none⟩), .pointer (some ⟨w.heap.size, 5, none⟩), .pointer (some ⟨w.heap.size, 6, none⟩), .pointer (some ⟨w.heap.size, 7, none⟩), .pointer (some ⟨w.heap.size, 8, none⟩), .pointer (some ⟨w.heap.size, 9, none⟩)]) (.int .i64 8)).run Try.prog W = .ok (.pointer (some ⟨w.heap.size, 8, none⟩)) W := fun _ => by kernel_rfl
      by_cases h4 : n < 4
      · have FH := Lib.hid (fun (W : World) (hb : Below w.heap.size w W) => FH0.out W (4, Rc.zero) (by rw [← H.go, decGo_short (by omega) (by omega)]; rfl) hb)
        clear FH0
        go_wp2_with fail
        refine (tk_short A n c _ h4).mono ?_
        rintro e w1 ⟨rfl, rfl⟩
        go_wp2
        refine leaves_cons (f := 30) (args := #[.pointer (some ⟨w.heap.size, 0, none⟩), .pointer (some ⟨w.heap.size + 1, 0, none⟩)]) (by simp) (by simp [go_sem]) ?_
        refine (catch_throw w.heap.size 4 _ 0 _ H.blk H.err).mono ?_
        rintro e u' w9 ⟨rfl, rfl, hcc⟩
        have hbl := door_threw H.bel hcc
        obtain ⟨g0, g1, g2, g3, g4, g5, g6, g7, g8, g9⟩ := rcBlk hcc.1
        have gE := hcc.2.1.cell 0
        have hfin := FH.out _ hbl
        clear FH
        simp [Leaves, settle, results, Try.results16, go_sem, g0, g1, g2, g3, g4, g5, g6, g7, g8, g9, gE]
        exact hfin
      · by_cases hv : valOf (zs.take 4) ≤ 2147483647
        · have hN := Lib.hid (fun A' w1 hr hb => H.next (by omega) (by omega) (by omega) hv (A' := A') (w1 := w1) hr hb hB)
          have CT := Lib.hid (tk_ok A n c B zs wr H.rd (by omega) hnc H.cb H.bd hv)
          have eB := H.blk
          have eE := H.err
          clear FH0 H hlen hzl hB
          generalize valOf (zs.take 4) = v at *
          go_wp2_with fail
          refine CT.out.mono ?_
          rintro e w1 ⟨A2, rfl, hr2, hb1⟩
          have hM := hN.out A2 w1 hr2 hb1
          have gB := eB.below hb1 eB.lt
          have fB1 := gB.frozen
          clear x0 x1 x2 x3 x4 x5 x6 x7 x8 x9 fB y0 hN CT hr2 hb1 eB eE zE
          obtain ⟨x0, x1, x2, x3, x4, x5, x6, x7, x8, x9⟩ := rcBlk gB
          have HM := Lib.hid hM
          clear hM gB
          go_wp2
          go_roundw
          case rel => exact ⟨8 + 1, _, _, _, _, _, by omega, rfl, rfl, HM.out⟩
          case measure => simp [intOf]
        · have FH := Lib.hid (fun (W : World) (hb : Below w.heap.size w W) => FH0.out W (2, Rc.zero) (by rw [← H.go, decGo_range (by omega) (by omega) hv]; rfl) hb)
          clear FH0
          have CT := Lib.hid (tk_range A n c B zs wr H.rd (by omega) hnc H.bd hv)
          go_wp2_with fail
          refine CT.out.mono ?_
          rintro e w1 ⟨rfl, rfl⟩
          go_wp2
          refine leaves_cons (f := 30) (args := #[.pointer (some ⟨w.heap.size, 0, none⟩), .pointer (some ⟨w.heap.size + 1, 0, none⟩)]) (by simp) (by simp [go_sem]) ?_
          refine (catch_throw w.heap.size 2 _ 0 _ H.blk H.err).mono ?_
          rintro e u' w9 ⟨rfl, rfl, hcc⟩
          have hbl := door_threw H.bel hcc
          obtain ⟨g0, g1, g2, g3, g4, g5, g6, g7, g8, g9⟩ := rcBlk hcc.1
          have gE := hcc.2.1.cell 0
          have hfin := FH.out _ hbl
          clear FH
          simp [Leaves, settle, results, Try.results16, go_sem, g0, g1, g2, g3, g4, g5, g6, g7, g8, g9, gE]
          exact hfin
    · have i0 : ∀ W : World, (Instr.index 71 (.agg #[.pointer (some ⟨w.heap.size, 0, none⟩), .pointer (some ⟨w.heap.size, 1, none⟩), .pointer (some ⟨w.heap.size, 2, none⟩), .pointer (some ⟨w.heap.size, 3, none⟩), .pointer (some ⟨w.heap.size, 4, none⟩), .pointer (some ⟨w.heap.size, 5, none⟩), .pointer (some ⟨w.heap.size, 6, none⟩), .pointer (some ⟨w.heap.size, 7, none⟩), .pointer (some ⟨w.heap.size, 8, none⟩), .pointer (some ⟨w.heap.size, 9, none⟩)]) (.int .i64 9)).run Try.prog W = .ok (.pointer (some ⟨w.heap.size, 9, none⟩)) W := fun _ => by kernel_rfl
      by_cases h4 : n < 4
      · have FH := Lib.hid (fun (W : World) (hb : Below w.heap.size w W) => FH0.out W (4, Rc.zero) (by rw [← H.go, decGo_short (by omega) (by omega)]; rfl) hb)
        clear FH0
        go_wp2_with fail
        refine (tk_short A n c _ h4).mono ?_
        rintro e w1 ⟨rfl, rfl⟩
        go_wp2
        refine leaves_cons (f := 30) (args := #[.pointer (some ⟨w.heap.size, 0, none⟩), .pointer (some ⟨w.heap.size + 1, 0, none⟩)]) (by simp) (by simp [go_sem]) ?_
        refine (catch_throw w.heap.size 4 _ 0 _ H.blk H.err).mono ?_
        rintro e u' w9 ⟨rfl, rfl, hcc⟩
        have hbl := door_threw H.bel hcc
        obtain ⟨g0, g1, g2, g3, g4, g5, g6, g7, g8, g9⟩ := rcBlk hcc.1
        have gE := hcc.2.1.cell 0
        have hfin := FH.out _ hbl
        clear FH
        simp [Leaves, settle, results, Try.results16, go_sem, g0, g1, g2, g3, g4, g5, g6, g7, g8, g9, gE]
        exact hfin
      · by_cases hv : valOf (zs.take 4) ≤ 2147483647
        · have hN := Lib.hid (fun A' w1 hr hb => H.next (by omega) (by omega) (by omega) hv (A' := A') (w1 := w1) hr hb hB)
          have CT := Lib.hid (tk_ok A n c B zs wr H.rd (by omega) hnc H.cb H.bd hv)
          have eB := H.blk
          have eE := H.err
          clear FH0 H hlen hzl hB
          generalize valOf (zs.take 4) = v at *
          go_wp2_with fail
          refine CT.out.mono ?_
          rintro e w1 ⟨A2, rfl, hr2, hb1⟩
          have hM := hN.out A2 w1 hr2 hb1
          have gB := eB.below hb1 eB.lt
          have fB1 := gB.frozen
          clear x0 x1 x2 x3 x4 x5 x6 x7 x8 x9 fB y0 hN CT hr2 hb1 eB eE zE
          obtain ⟨x0, x1, x2, x3, x4, x5, x6, x7, x8, x9⟩ := rcBlk gB
          have HM := Lib.hid hM
          clear hM gB
          go_wp2
          go_roundw
          case rel => exact ⟨9 + 1, _, _, _, _, _, by omega, rfl, rfl, HM.out⟩
          case measure => simp [intOf]
        · have FH := Lib.hid (fun (W : World) (hb : Below w.heap.size w W) => FH0.out W (2, Rc.zero) (by rw [← H.go, decGo_range (by omega) (by omega) hv]; rfl) hb)
          clear FH0
          have CT := Lib.hid (tk_range A n c B zs wr H.rd (by omega) hnc H.bd hv)
          go_wp2_with fail
          refine CT.out.mono ?_
          rintro e w1 ⟨rfl, rfl⟩
          go_wp2
          refine leaves_cons (f := 30) (args := #[.pointer (some ⟨w.heap.size, 0, none⟩), .pointer (some ⟨w.heap.size + 1, 0, none⟩)]) (by simp) (by simp [go_sem]) ?_
          refine (catch_throw w.heap.size 2 _ 0 _ H.blk H.err).mono ?_
          rintro e u' w9 ⟨rfl, rfl, hcc⟩
          have hbl := door_threw H.bel hcc
          obtain ⟨g0, g1, g2, g3, g4, g5, g6, g7, g8, g9⟩ := rcBlk hcc.1
          have gE := hcc.2.1.cell 0
          have hfin := FH.out _ hbl
          clear FH
          simp [Leaves, settle, results, Try.results16, go_sem, g0, g1, g2, g3, g4, g5, g6, g7, g8, g9, gE]
          exact hfin
    · have HT := Lib.hid (show decEnd T = decEnd (0, acc, zs) by rw [← H.go]; rfl)
      by_cases hn0 : 0 < n
      · have FH := Lib.hid (fun (W : World) (hb : Below w.heap.size w W) => FH0.out W (3, Rc.zero) (by rw [HT.out]; exact decEnd_more (by intro h0; rw [h0] at hzl; simp at hzl; omega)) hb)
        clear FH0 HT
        go_wp2
        refine leaves_cons (f := 30) (args := #[.pointer (some ⟨w.heap.size, 0, none⟩), .pointer (some ⟨w.heap.size + 1, 0, none⟩)]) (by simp) (by simp [go_sem]) ?_
        refine (catch_throw w.heap.size 3 _ 0 _ H.blk H.err).mono ?_
        rintro e u' w9 ⟨rfl, rfl, hcc⟩
        have hbl := door_threw H.bel hcc
        obtain ⟨g0, g1, g2, g3, g4, g5, g6, g7, g8, g9⟩ := rcBlk hcc.1
        have gE := hcc.2.1.cell 0
        have hfin := FH.out _ hbl
        clear FH
        simp [Leaves, settle, results, Try.results16, go_sem, g0, g1, g2, g3, g4, g5, g6, g7, g8, g9, gE]
        exact hfin
      · have hz0 : zs = [] := List.eq_nil_of_length_eq_zero (by omega)
        have CR := fun W => Lib.hid (recCheck_any (ofNums acc).kind (ofNums acc).queue (ofNums acc).epoch (ofNums acc).peer (ofNums acc).ev.kind (ofNums acc).ev.prod (ofNums acc).ev.id (ofNums acc).ev.body (ofNums acc).ev.hep (ofNums acc).ev.hno W)
        change ∀ W, Hid (Calls Try.prog 27 #[.agg #[.int .i64 (ofNums acc).kind, .int .i64 (ofNums acc).queue, .int .i64 (ofNums acc).epoch, .int .i64 (ofNums acc).peer, .int .i64 (ofNums acc).ev.kind, .int .i64 (ofNums acc).ev.prod, .int .i64 (ofNums acc).ev.id, .int .i64 (ofNums acc).ev.body, .int .i64 (ofNums acc).ev.hep, .int .i64 (ofNums acc).ev.hno]] W (Puts W (.int .i64 (ofNums acc).check))) at CR
        have hn0' : ¬ (0 : Int) < (n : Int) := by omega
        by_cases hck : (ofNums acc).check = 0
        · have FH := Lib.hid (fun (W : World) (hb : Below w.heap.size w W) => FH0.out W (0, ofNums acc) (by rw [HT.out]; exact decEnd_ok hz0 hck) hb)
          rw [hck] at CR
          clear FH0 HT hck hz0
          go_wp2_with fail
          refine (CR _).out.mono ?_
          rintro e w1 ⟨rfl, hb1⟩
          have gB := H.blk.below hb1 H.blk.lt
          have gE := H.err.below hb1 H.err.lt
          have gL := H.bel.trans (hb1.mono H.bel.size)
          have fB1 := gB.frozen
          have fE1 := gE.frozen
          have zE1 := gE.lt
          clear x0 x1 x2 x3 x4 x5 x6 x7 x8 x9 fB y0 CR hb1 zE H
          obtain ⟨x0, x1, x2, x3, x4, x5, x6, x7, x8, x9⟩ := rcBlk gB
          have y0 := gE.cell 0
          generalize ofNums acc = r at *
          go_wp2
          rw [put10_eq]
          have D1 := putFrom_blk gB [.int .i64 r.kind, .int .i64 r.queue, .int .i64 r.epoch, .int .i64 r.peer, .int .i64 r.ev.kind, .int .i64 r.ev.prod, .int .i64 r.ev.id, .int .i64 r.ev.body, .int .i64 r.ev.hep, .int .i64 r.ev.hno] rfl
          have D2 := putFrom_far (g := w.heap.size) (g' := w.heap.size + 1) (by omega) [.int .i64 r.kind, .int .i64 r.queue, .int .i64 r.epoch, .int .i64 r.peer, .int .i64 r.ev.kind, .int .i64 r.ev.prod, .int .i64 r.ev.id, .int .i64 r.ev.body, .int .i64 r.ev.hep, .int .i64 r.ev.hno] 0 w1 gE
          have D3 := putFrom_below (Nat.le_refl w.heap.size) [.int .i64 r.kind, .int .i64 r.queue, .int .i64 r.epoch, .int .i64 r.peer, .int .i64 r.ev.kind, .int .i64 r.ev.prod, .int .i64 r.ev.id, .int .i64 r.ev.body, .int .i64 r.ev.hep, .int .i64 r.ev.hno] 0 w1 gL
          generalize putFrom w1 w.heap.size 0 _ = w2 at *
          have E1 : Blk (w2.setCell ⟨w.heap.size + 1, 0, none⟩ (.int .i64 0)) w.heap.size 29 r.cells := D1.far (by simp) _
          have E2 := D2.set_ 0 (.int .i64 0)
          have E3 := D3.setCell (p := ⟨w.heap.size + 1, 0, none⟩) (by simp) (.int .i64 0)
          generalize w2.setCell ⟨w.heap.size + 1, 0, none⟩ (.int .i64 0) = w3 at *
          refine leaves_cons (f := 30) (args := #[.pointer (some ⟨w.heap.size, 0, none⟩), .pointer (some ⟨w.heap.size + 1, 0, none⟩)]) (by simp) (by simp [go_sem]) ?_
          refine (catch_idle _ _ _).mono ?_
          rintro e u' w9 ⟨rfl, rfl, rfl⟩
          obtain ⟨g0, g1, g2, g3, g4, g5, g6, g7, g8, g9⟩ := rcBlk E1
          have gE0 := E2.cell 0
          have hfin := FH.out _ E3
          clear FH
          simp [Leaves, settle, results, Try.results16, go_sem, g0, g1, g2, g3, g4, g5, g6, g7, g8, g9, gE0]
          exact hfin
        · have FH := Lib.hid (fun (W : World) (hb : Below w.heap.size w W) => FH0.out W (3, Rc.zero) (by rw [HT.out]; exact decEnd_bad hck) hb)
          clear FH0 HT hz0
          generalize (ofNums acc).check = cv at *
          have hcv : (cv != 0) = true := bne_iff_ne.2 hck
          have hcv2 : (cv == 0) = false := beq_eq_false_iff_ne.2 hck
          clear hck
          go_wp2_with fail
          refine (CR _).out.mono ?_
          rintro e w1 ⟨rfl, hb1⟩
          have gB := H.blk.below hb1 H.blk.lt
          have gE := H.err.below hb1 H.err.lt
          have gL := H.bel.trans (hb1.mono H.bel.size)
          clear x0 x1 x2 x3 x4 x5 x6 x7 x8 x9 fB y0 CR hb1 zE H
          go_wp2
          refine leaves_cons (f := 30) (args := #[.pointer (some ⟨w.heap.size, 0, none⟩), .pointer (some ⟨w.heap.size + 1, 0, none⟩)]) (by simp) (by simp [go_sem]) ?_
          refine (catch_throw w.heap.size 3 _ 0 _ gB gE).mono ?_
          rintro e u' w9 ⟨rfl, rfl, hcc⟩
          have hbl := door_threw gL hcc
          obtain ⟨g0, g1, g2, g3, g4, g5, g6, g7, g8, g9⟩ := rcBlk hcc.1
          have gE := hcc.2.1.cell 0
          have hfin := FH.out _ hbl
          clear FH
          simp [Leaves, settle, results, Try.results16, go_sem, g0, g1, g2, g3, g4, g5, g6, g7, g8, g9, gE]
          exact hfin

end Go.Proofs.Ytcgamaponeglhaa
