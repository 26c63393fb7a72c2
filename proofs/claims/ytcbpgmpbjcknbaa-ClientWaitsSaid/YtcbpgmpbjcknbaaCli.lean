/- Clients: Check. -/
import Derived.Test.YtcbpgmpbjcknbaaChk
import Derived.Test.YtcbpgmpbjcknbaaPut3
import Derived.Deep.QuietTactic
import Derived.BigQuiet
namespace Go.Proofs.Ytcbpgmpbjcknbaa
open Go.RowKit

/-- the cells of a client -/
def cliCells (p nx : Int) (v : Value) (f : Nat → Int) : Array Value := #[.int .i64 p, .int .i64 nx, v, .int .i64 (f 0), .int .i64 (f 1), .int .i64 (f 2), .int .i64 (f 3)]
/-- what waits: ids and bodies -/
def evRow (p : Int) (ws : List (Int × Int)) : List Value := rowCells (ws.map fun x => [1, p, x.1, x.2, 0, 0])
def lastOf (ws : List (Int × Int)) (k : Nat) : Int := if k = 0 then -1 else (ws.getD (k - 1) (0, 0)).1
structure ClOk (p nx : Int) (ws : List (Int × Int)) (f : Nat → Int) : Prop where
  p0 : 0 ≤ p
  p3 : p ≤ 3
  n0 : 0 ≤ nx
  n1 : nx ≤ 1073741824
  ids : ∀ k, k < ws.length → 0 ≤ (ws.getD k (0, 0)).1 ∧ (ws.getD k (0, 0)).1 < nx ∧ nx - (ws.getD k (0, 0)).1 ≤ 8 ∧ 0 ≤ (ws.getD k (0, 0)).2 ∧ (ws.getD k (0, 0)).2 ≤ 1000000 ∧ lastOf ws k < (ws.getD k (0, 0)).1
  wh : ∀ k, k < 4 → -1 ≤ f k ∧ f k ≤ 4

theorem evRow_len (p : Int) (ws : List (Int × Int)) : (evRow p ws).length = ws.length * 6 := by
  have := rowCells_len 6 (ws.map fun x => [1, p, x.1, x.2, 0, 0]) (fun r hr => by obtain ⟨x, _, rfl⟩ := List.mem_map.1 hr; rfl)
  rw [List.length_map] at this
  exact this

/-- the cells of an event that waits -/
theorem evAt {w : World} {B n k : Nat} {A : Option Addr} {p : Int} {ws : List (Int × Int)} (hl : ws.length = n) (h : Reads w B 6 A n (evRow p ws)) (hk : k < n) :
    ∃ b off, A = some ⟨b, off, none⟩ ∧ b < B ∧ w.cell? ⟨b, off + k * 6, none⟩ = some (.int .i64 1) ∧ w.cell? ⟨b, off + k * 6 + 1, none⟩ = some (.int .i64 p) ∧ w.cell? ⟨b, off + k * 6 + 2, none⟩ = some (.int .i64 (ws.getD k (0, 0)).1) ∧ w.cell? ⟨b, off + k * 6 + 3, none⟩ = some (.int .i64 (ws.getD k (0, 0)).2) ∧
      w.cell? ⟨b, off + k * 6 + 4, none⟩ = some (.int .i64 0) ∧ w.cell? ⟨b, off + k * 6 + 5, none⟩ = some (.int .i64 0) := by
  obtain ⟨b, off, rfl, hb, hc⟩ := h.plain (by omega) (by omega)
  have hr : ws[k]? = some (ws.getD k (0, 0)) := by rw [List.getElem?_eq_getElem (show k < ws.length by omega)]; simp [List.getD, List.getElem?_eq_getElem (show k < ws.length by omega)]
  have hat : ∀ j u, j < 6 → ([1, p, (ws.getD k (0, 0)).1, (ws.getD k (0, 0)).2, 0, 0] : List Int)[j]? = some u → w.cell? ⟨b, off + k * 6 + j, none⟩ = some (.int .i64 u) := fun j u hj hu => by
    rw [Nat.add_assoc]
    refine hc _ _ ?_
    unfold evRow
    rw [rowCells_at 6 _ (fun r hr => by obtain ⟨x, _, rfl⟩ := List.mem_map.1 hr; rfl) k j [1, p, (ws.getD k (0, 0)).1, (ws.getD k (0, 0)).2, 0, 0] (by rw [List.getElem?_map, hr]; rfl) hj, hu]
    rfl
  exact ⟨b, off, rfl, hb, hat 0 _ (by omega) rfl, hat 1 _ (by omega) rfl, hat 2 _ (by omega) rfl, hat 3 _ (by omega) rfl, hat 4 _ (by omega) rfl, hat 5 _ (by omega) rfl⟩

theorem cli_ev_ok {p id body : Int} (h0 : 0 ≤ p) (h1 : p ≤ 3) (h2 : 0 ≤ id) (h3 : id ≤ 1073741824) (h4 : 0 ≤ body) (h5 : body ≤ 1000000) : Ev.check ⟨1, p, id, body, 0, 0⟩ = 0 := by
  simp [Ev.check, Ev.ok1, inB, h0, h1, h2, h3, h4, h5]

theorem cliBlk {w : World} {g : Nat} {t : TypeId} {p nx : Int} {v : Value} {f : Nat → Int} (h : Blk w g t (cliCells p nx v f)) :
    w.cell? ⟨g, 0, none⟩ = some (.int .i64 p) ∧ w.cell? ⟨g, 1, none⟩ = some (.int .i64 nx) ∧ w.cell? ⟨g, 2, none⟩ = some v ∧ w.cell? ⟨g, 3, none⟩ = some (.int .i64 (f 0)) ∧
      w.cell? ⟨g, 4, none⟩ = some (.int .i64 (f 1)) ∧ w.cell? ⟨g, 5, none⟩ = some (.int .i64 (f 2)) ∧ w.cell? ⟨g, 6, none⟩ = some (.int .i64 (f 3)) :=
  ⟨h.cell 0, h.cell 1, h.cell 2, h.cell 3, h.cell 4, h.cell 5, h.cell 6⟩

set_option maxRecDepth 100000 in
set_option maxHeartbeats 2000000 in
theorem ccheck_ok (p nx : Int) (A : Option Addr) (n c B : Nat) (ws : List (Int × Int)) (f : Nat → Int) (w : World) (h : ClOk p nx ws f) (hl : ws.length = n) (hn : n ≤ 100) (hr : Reads w B 6 A n (evRow p ws)) (hB : B ≤ w.heap.size) :
    Calls Try.prog 24 #[.agg (cliCells p nx (.slice A n c) f)] w (Puts w (.int .i64 0)) := by
  have h0 := h.p0
  have h1 := h.p3
  have h2 := h.n0
  have h3 := h.n1
  have HP := Lib.hid h
  clear h
  unfold cliCells
  go_enter Try.func24, Try.ntmps24
  go_wp2_with fail
  have HL := Lib.hid hl
  clear hl
  go_loopw [3, 29] (fun s3 s29 wr => ∃ k : Nat, k ≤ n ∧ s29 = .int .i64 k ∧ s3 = .int .i64 (lastOf ws k) ∧ Blk wr w.heap.size 46 (cliCells p nx (.slice A n c) f) ∧ Below w.heap.size w wr) (fun _ s29 _ => n - (intOf s29).toNat)
  case atStart => exact ⟨0, Nat.zero_le _, rfl, rfl, Blk.new _ _ _, (Below.refl _ _).alloc (Nat.le_refl _) _⟩
  case round =>
    obtain ⟨k, hk, rfl, rfl, E, bel⟩ := hrel
    by_cases hlt : k < n
    · obtain ⟨b, off, rfl, hb, y0, y1, y2, y3, y4, y5⟩ := evAt HL.out (hr.below (bel.mono hB)) hlt
      obtain ⟨a0, a1, a2, a3, a4, a5⟩ := HP.out.ids k (by rw [HL.out]; exact hlt)
      have hck := cli_ev_ok h0 h1 a0 (by omega) a3 a4
      have HLK := Lib.hid (show lastOf ws (k + 1) = (ws.getD k (0, 0)).1 by simp [lastOf])
      generalize (ws.getD k (0, 0)).1 = id at *
      generalize (ws.getD k (0, 0)).2 = body at *
      generalize lastOf ws k = last at *
      have CK := fun W => Lib.hid (check_any 1 p id body 0 0 W)
      rw [hck] at CK
      obtain ⟨x0, x1, x2, x3, x4, x5, x6⟩ := cliBlk E
      have z0 := E.lt
      have zb : b < wr.heap.size := by omega
      have i1 : IntKind.i64.wrap (nx - id) = nx - id := IntWalk.i64_in _ (by omega)
      have hI : (k : Int) < (n : Int) := by omega
      have i2 : IntKind.i64.wrap ((k : Int) + 1) = (k : Int) + 1 := IntWalk.i64_in _ (by omega)
      clear hck hr
      go_wp2_with fail
      refine ((CK _).out).mono ?_
      rintro e w2 ⟨rfl, b2⟩
      have EV := (Blk.new wr 58 #[.int .i64 1, .int .i64 p, .int .i64 id, .int .i64 body, .int .i64 0, .int .i64 0]).below b2 (by simp)
      have E2 := (E.alloc (.cells #[.int .i64 1, .int .i64 p, .int .i64 id, .int .i64 body, .int .i64 0, .int .i64 0] 58)).below b2 (by simp; omega)
      have bel2 := (bel.alloc bel.size (.cells #[.int .i64 1, .int .i64 p, .int .i64 id, .int .i64 body, .int .i64 0, .int .i64 0] 58)).trans (b2.mono (by simp; omega))
      clear x0 x1 x2 x3 x4 x5 x6 z0 zb E bel b2 CK y0 y1 y2 y3 y4 y5
      have v0 := EV.cell 0
      have v1 := EV.cell 1
      have v2 := EV.cell 2
      have vz := EV.lt
      obtain ⟨x0, x1, x2, x3, x4, x5, x6⟩ := cliBlk E2
      have z0 := E2.lt
      have j1 : ¬ id ≤ last := by omega
      have j2 : ¬ nx ≤ id := by omega
      have j3 : ¬ 8 < nx - id := by omega
      go_wp2_with fail
      go_roundw
      case rel => exact ⟨k + 1, by omega, by go_num, by rw [HLK.out], E2, bel2⟩
      case measure => simp [intOf]; omega
    · obtain rfl : k = n := by omega
      obtain ⟨x0, x1, x2, x3, x4, x5, x6⟩ := cliBlk E
      go_wp2_with fail
      go_loop [74] (fun i => ∃ q : Nat, q ≤ 4 ∧ i = .int .i64 q) (fun i => 4 - (intOf i).toNat)
      case atStart => exact ⟨0, by omega, rfl⟩
      case round =>
      obtain ⟨q, hq, rfl⟩ := hrel
      rcases (show q = 0 ∨ q = 1 ∨ q = 2 ∨ q = 3 ∨ q = 4 by omega) with rfl | rfl | rfl | rfl | rfl
      · have i0 : ∀ W : World, (Instr.index 44 (.agg #[.int .i64 (f 0), .int .i64 (f 1), .int .i64 (f 2), .int .i64 (f 3)]) (.int .i64 0)).run Try.prog W = .ok (.int .i64 (f 0)) W := fun _ => by kernel_rfl
        obtain ⟨q1, q2⟩ := HP.out.wh 0 (by omega)
        have j1 : ¬ f 0 < -1 := by omega
        have j2 : ¬ 5 ≤ f 0 := by omega
        go_wp2
        go_round
        case rel => exact ⟨1, by omega, rfl⟩
        case measure => simp [intOf]
      · have i0 : ∀ W : World, (Instr.index 44 (.agg #[.int .i64 (f 0), .int .i64 (f 1), .int .i64 (f 2), .int .i64 (f 3)]) (.int .i64 1)).run Try.prog W = .ok (.int .i64 (f 1)) W := fun _ => by kernel_rfl
        obtain ⟨q1, q2⟩ := HP.out.wh 1 (by omega)
        have j1 : ¬ f 1 < -1 := by omega
        have j2 : ¬ 5 ≤ f 1 := by omega
        go_wp2
        go_round
        case rel => exact ⟨2, by omega, rfl⟩
        case measure => simp [intOf]
      · have i0 : ∀ W : World, (Instr.index 44 (.agg #[.int .i64 (f 0), .int .i64 (f 1), .int .i64 (f 2), .int .i64 (f 3)]) (.int .i64 2)).run Try.prog W = .ok (.int .i64 (f 2)) W := fun _ => by kernel_rfl
        obtain ⟨q1, q2⟩ := HP.out.wh 2 (by omega)
        have j1 : ¬ f 2 < -1 := by omega
        have j2 : ¬ 5 ≤ f 2 := by omega
        go_wp2
        go_round
        case rel => exact ⟨3, by omega, rfl⟩
        case measure => simp [intOf]
      · have i0 : ∀ W : World, (Instr.index 44 (.agg #[.int .i64 (f 0), .int .i64 (f 1), .int .i64 (f 2), .int .i64 (f 3)]) (.int .i64 3)).run Try.prog W = .ok (.int .i64 (f 3)) W := fun _ => by kernel_rfl
        obtain ⟨q1, q2⟩ := HP.out.wh 3 (by omega)
        have j1 : ¬ f 3 < -1 := by omega
        have j2 : ¬ 5 ≤ f 3 := by omega
        go_wp2
        go_round
        case rel => exact ⟨4, by omega, rfl⟩
        case measure => simp [intOf]
      · go_wp2
        go_ret
        exact ⟨rfl, bel⟩

end Go.Proofs.Ytcbpgmpbjcknbaa
