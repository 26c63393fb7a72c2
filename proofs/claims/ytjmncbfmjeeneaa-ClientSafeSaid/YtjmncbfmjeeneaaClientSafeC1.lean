/- A struct of several cells that is stored over another one: the nested stores under one name. No program in sight. And more of what the proof stands on. -/
import Derived.Deep.QuietTactic
import Derived.BigQuiet
import Derived.Deep.DeepCutAuto
import Derived.BigRegion
import Derived.Deep.RegionLaw
import Derived.Test.YtjmncbfmjeeneaaRB8

namespace Go.Proofs.Ytjmncbfmjeeneaa.Cl
open Go.RowKit

theorem below_drewN {B : Nat} {a w : World} (h : Below B a w) (n : Nat) : Below B a (w.drewN n) := ⟨h.os, h.tape, h.output, h.size, h.block⟩

/-- new blocks, one behind the other -/
theorem blk4 (w : World) (a b c d : TypeId) (A B C D : Array Value) :
    Blk ((((w.alloc (.cells A a)).alloc (.cells B b)).alloc (.cells C c)).alloc (.cells D d)) w.heap.size a A ∧
    Blk ((((w.alloc (.cells A a)).alloc (.cells B b)).alloc (.cells C c)).alloc (.cells D d)) (w.heap.size + 1) b B ∧
    Blk ((((w.alloc (.cells A a)).alloc (.cells B b)).alloc (.cells C c)).alloc (.cells D d)) (w.heap.size + 1 + 1) c C ∧
    Blk ((((w.alloc (.cells A a)).alloc (.cells B b)).alloc (.cells C c)).alloc (.cells D d)) (w.heap.size + 1 + 1 + 1) d D ∧
    Below w.heap.size w ((((w.alloc (.cells A a)).alloc (.cells B b)).alloc (.cells C c)).alloc (.cells D d)) := by
  have h2 := Blk.new (w.alloc (.cells A a)) b B
  have h3 := Blk.new ((w.alloc (.cells A a)).alloc (.cells B b)) c C
  have h4 := Blk.new (((w.alloc (.cells A a)).alloc (.cells B b)).alloc (.cells C c)) d D
  simp only [World.size_alloc] at h2 h3 h4
  exact ⟨(((Blk.new w a A).alloc _).alloc _).alloc _, (h2.alloc _).alloc _, h3.alloc _, h4, ((((Below.refl _ _).alloc (Nat.le_refl _) _).alloc (by simp) _).alloc (by simp; omega) _).alloc (by simp; omega) _⟩

/-- the cells vs, stored into block g from place k on -/
def putFrom (w : World) (g : Nat) : Nat → List Value → World
  | _, [] => w
  | k, v :: vs => putFrom (w.setCell ⟨g, k, none⟩ v) g (k + 1) vs

theorem putFrom_below {B : Nat} {a : World} {g : Nat} (hg : B ≤ g) : ∀ (vs : List Value) (k : Nat) (w : World), Below B a w → Below B a (putFrom w g k vs)
  | [], _, _, h => h
  | _ :: vs, k, _, h => putFrom_below hg vs (k + 1) _ (h.setCell (p := ⟨g, k, none⟩) hg _)
theorem putFrom_far {g g' : Nat} {t : TypeId} {cs : Array Value} (hg : g' ≠ g) : ∀ (vs : List Value) (k : Nat) (w : World), Blk w g' t cs → Blk (putFrom w g k vs) g' t cs
  | [], _, _, h => h
  | _ :: vs, k, _, h => putFrom_far hg vs (k + 1) _ (h.far (p := ⟨g, k, none⟩) hg _)
theorem putFrom_own {base : Nat} {e : TypeId} {size : Nat} {u : Value} {n : Nat} {xs : List Value} {g : Nat} (hg : u.ownBlock ≠ some g) : ∀ (vs : List Value) (k : Nat) (w : World), w.ownsRow base e size u n xs → (putFrom w g k vs).ownsRow base e size u n xs
  | [], _, _, h => h
  | _ :: vs, k, _, h => putFrom_own hg vs (k + 1) _ (ownsRow_setCell_other (a := ⟨g, k, none⟩) h hg _)
theorem putFrom_reads {B size n : Nat} {A : Option Addr} {xs : List Value} {g : Nat} (hg : B ≤ g) : ∀ (vs : List Value) (k : Nat) (w : World), Reads w B size A n xs → Reads (putFrom w g k vs) B size A n xs
  | [], _, _, h => h
  | _ :: vs, k, _, h => putFrom_reads hg vs (k + 1) _ (h.setCell (p := ⟨g, k, none⟩) hg _)
theorem putFrom_size {g : Nat} : ∀ (vs : List Value) (k : Nat) (w : World), (putFrom w g k vs).heap.size = w.heap.size
  | [], _, _ => rfl
  | _ :: vs, k, w => (putFrom_size vs (k + 1) _).trans (by simp [World.setCell])
theorem putFrom_blk0 {g : Nat} {t : TypeId} : ∀ (vs pre suf : List Value) (w : World), suf.length = vs.length → Blk w g t (pre ++ suf).toArray → Blk (putFrom w g pre.length vs) g t (pre ++ vs).toArray
  | [], pre, suf, w, hl, h => by
    obtain rfl : suf = [] := List.eq_nil_of_length_eq_zero (by simpa using hl)
    exact h
  | v :: vs, pre, [], w, hl, h => by simp at hl
  | v :: vs, pre, s :: suf, w, hl, h => by
    have h1 : Blk (w.setCell ⟨g, pre.length, none⟩ v) g t ((pre ++ [v]) ++ suf).toArray := by
      have := h.set_ pre.length v
      have e : (pre ++ s :: suf).toArray.setIfInBounds pre.length v = ((pre ++ [v]) ++ suf).toArray := by
        simp
      rw [e] at this
      exact this
    have h2 := putFrom_blk0 vs (pre ++ [v]) suf _ (by simpa using hl) h1
    simp only [List.length_append, List.length_cons, List.length_nil, List.append_assoc, List.singleton_append] at h2
    exact h2
theorem putFrom_blk {w : World} {g : Nat} {t : TypeId} {cs : Array Value} (h : Blk w g t cs) (vs : List Value) (hl : cs.size = vs.length) : Blk (putFrom w g 0 vs) g t vs.toArray := by
  obtain ⟨l⟩ := cs
  simpa using putFrom_blk0 vs [] l w (by simpa using hl) (by simpa using h)

theorem put2_eq (w : World) (g : Nat) (a b : Value) : (w.setCell ⟨g, 0, none⟩ a).setCell ⟨g, 1, none⟩ b = putFrom w g 0 [a, b] := rfl
theorem put8_eq (w : World) (g : Nat) (a b c d e f h i : Value) :
    (((((((w.setCell ⟨g, 0, none⟩ a).setCell ⟨g, 1, none⟩ b).setCell ⟨g, 2, none⟩ c).setCell ⟨g, 3, none⟩ d).setCell ⟨g, 4, none⟩ e).setCell ⟨g, 5, none⟩ f).setCell ⟨g, 6, none⟩ h).setCell ⟨g, 7, none⟩ i = putFrom w g 0 [a, b, c, d, e, f, h, i] := rfl
theorem put10_eq (w : World) (g : Nat) (a b c d e f h i j k : Value) :
    (((((((((w.setCell ⟨g, 0, none⟩ a).setCell ⟨g, 1, none⟩ b).setCell ⟨g, 2, none⟩ c).setCell ⟨g, 3, none⟩ d).setCell ⟨g, 4, none⟩ e).setCell ⟨g, 5, none⟩ f).setCell ⟨g, 6, none⟩ h).setCell ⟨g, 7, none⟩ i).setCell ⟨g, 8, none⟩ j).setCell ⟨g, 9, none⟩ k = putFrom w g 0 [a, b, c, d, e, f, h, i, j, k] := rfl

end Go.Proofs.Ytjmncbfmjeeneaa.Cl

namespace Go.Proofs.Ytjmncbfmjeeneaa.Cl
open Go.RowKit

theorem blk3 (w : World) (a b c : TypeId) (A B C : Array Value) :
    Blk (((w.alloc (.cells A a)).alloc (.cells B b)).alloc (.cells C c)) w.heap.size a A ∧
    Blk (((w.alloc (.cells A a)).alloc (.cells B b)).alloc (.cells C c)) (w.heap.size + 1) b B ∧
    Blk (((w.alloc (.cells A a)).alloc (.cells B b)).alloc (.cells C c)) (w.heap.size + 1 + 1) c C ∧
    Below w.heap.size w (((w.alloc (.cells A a)).alloc (.cells B b)).alloc (.cells C c)) := by
  have h2 := Blk.new (w.alloc (.cells A a)) b B
  have h3 := Blk.new ((w.alloc (.cells A a)).alloc (.cells B b)) c C
  simp only [World.size_alloc] at h2 h3
  exact ⟨((Blk.new w a A).alloc _).alloc _, h2.alloc _, h3, (((Below.refl _ _).alloc (Nat.le_refl _) _).alloc (by simp) _).alloc (by simp; omega) _⟩

end Go.Proofs.Ytjmncbfmjeeneaa.Cl

namespace Go.Proofs.Ytjmncbfmjeeneaa.Cl
open Go.RowKit

/-- the cells of a client -/
def cliCells (p nx : Int) (v : Value) (f : Nat → Int) : Array Value := #[.int .i64 p, .int .i64 nx, v, .int .i64 (f 0), .int .i64 (f 1), .int .i64 (f 2), .int .i64 (f 3)]
/-- what waits: ids and bodies -/
def evRow (p : Int) (ws : List (Int × Int)) : List Value := rowCells (ws.map fun x => [1, p, x.1, x.2, 0, 0])
def lastOf (ws : List (Int × Int)) (k : Nat) : Int := if k = 0 then -1 else (ws.getD (k - 1) (0, 0)).1
structure ClOk (p nx : Int) (ws : List (Int × Int)) (f : Nat → Int) : Prop where
  p0 : 0 ≤ p
  p3 : p ≤ 3
  n0 : 0 ≤ nx
  n1 : nx ≤ 1073741824
  ids : ∀ k, k < ws.length → 0 ≤ (ws.getD k (0, 0)).1 ∧ (ws.getD k (0, 0)).1 < nx ∧ nx - (ws.getD k (0, 0)).1 ≤ 8 ∧ 0 ≤ (ws.getD k (0, 0)).2 ∧ (ws.getD k (0, 0)).2 ≤ 1000000 ∧ lastOf ws k < (ws.getD k (0, 0)).1
  wh : ∀ k, k < 4 → -1 ≤ f k ∧ f k ≤ 4

theorem evRow_len (p : Int) (ws : List (Int × Int)) : (evRow p ws).length = ws.length * 6 := by
  have := rowCells_len 6 (ws.map fun x => [1, p, x.1, x.2, 0, 0]) (fun r hr => by obtain ⟨x, _, rfl⟩ := List.mem_map.1 hr; rfl)
  rw [List.length_map] at this
  exact this

/-- the cells of an event that waits -/
theorem evAt {w : World} {B n k : Nat} {A : Option Addr} {p : Int} {ws : List (Int × Int)} (hl : ws.length = n) (h : Reads w B 6 A n (evRow p ws)) (hk : k < n) :
    ∃ b off, A = some ⟨b, off, none⟩ ∧ b < B ∧ w.cell? ⟨b, off + k * 6, none⟩ = some (.int .i64 1) ∧ w.cell? ⟨b, off + k * 6 + 1, none⟩ = some (.int .i64 p) ∧ w.cell? ⟨b, off + k * 6 + 2, none⟩ = some (.int .i64 (ws.getD k (0, 0)).1) ∧ w.cell? ⟨b, off + k * 6 + 3, none⟩ = some (.int .i64 (ws.getD k (0, 0)).2) ∧
      w.cell? ⟨b, off + k * 6 + 4, none⟩ = some (.int .i64 0) ∧ w.cell? ⟨b, off + k * 6 + 5, none⟩ = some (.int .i64 0) := by
  obtain ⟨b, off, rfl, hb, hc⟩ := h.plain (by omega) (by omega)
  have hr : ws[k]? = some (ws.getD k (0, 0)) := by rw [List.getElem?_eq_getElem (show k < ws.length by omega)]; simp [List.getD, List.getElem?_eq_getElem (show k < ws.length by omega)]
  have hat : ∀ j u, j < 6 → ([1, p, (ws.getD k (0, 0)).1, (ws.getD k (0, 0)).2, 0, 0] : List Int)[j]? = some u → w.cell? ⟨b, off + k * 6 + j, none⟩ = some (.int .i64 u) := fun j u hj hu => by
    rw [Nat.add_assoc]
    refine hc _ _ ?_
    unfold evRow
    rw [rowCells_at 6 _ (fun r hr => by obtain ⟨x, _, rfl⟩ := List.mem_map.1 hr; rfl) k j [1, p, (ws.getD k (0, 0)).1, (ws.getD k (0, 0)).2, 0, 0] (by rw [List.getElem?_map, hr]; rfl) hj, hu]
    rfl
  exact ⟨b, off, rfl, hb, hat 0 _ (by omega) rfl, hat 1 _ (by omega) rfl, hat 2 _ (by omega) rfl, hat 3 _ (by omega) rfl, hat 4 _ (by omega) rfl, hat 5 _ (by omega) rfl⟩

theorem cli_ev_ok {p id body : Int} (h0 : 0 ≤ p) (h1 : p ≤ 3) (h2 : 0 ≤ id) (h3 : id ≤ 1073741824) (h4 : 0 ≤ body) (h5 : body ≤ 1000000) : Ev.check ⟨1, p, id, body, 0, 0⟩ = 0 := by
  simp [Ev.check, Ev.ok1, inB, h0, h1, h2, h3, h4, h5]

theorem cliBlk {w : World} {g : Nat} {t : TypeId} {p nx : Int} {v : Value} {f : Nat → Int} (h : Blk w g t (cliCells p nx v f)) :
    w.cell? ⟨g, 0, none⟩ = some (.int .i64 p) ∧ w.cell? ⟨g, 1, none⟩ = some (.int .i64 nx) ∧ w.cell? ⟨g, 2, none⟩ = some v ∧ w.cell? ⟨g, 3, none⟩ = some (.int .i64 (f 0)) ∧
      w.cell? ⟨g, 4, none⟩ = some (.int .i64 (f 1)) ∧ w.cell? ⟨g, 5, none⟩ = some (.int .i64 (f 2)) ∧ w.cell? ⟨g, 6, none⟩ = some (.int .i64 (f 3)) :=
  ⟨h.cell 0, h.cell 1, h.cell 2, h.cell 3, h.cell 4, h.cell 5, h.cell 6⟩

set_option maxRecDepth 100000 in
set_option maxRecDepth 100000 in
set_option maxHeartbeats 2000000 in
theorem ccheck_ok (p nx : Int) (A : Option Addr) (n c B : Nat) (ws : List (Int × Int)) (f : Nat → Int) (w : World) (h : ClOk p nx ws f) (hl : ws.length = n) (hn : n ≤ 100) (hr : Reads w B 6 A n (evRow p ws)) (hB : B ≤ w.heap.size) :
    Calls Try.prog 15 #[.agg (cliCells p nx (.slice A n c) f)] w (Puts w (.int .i64 0)) := by
  have h0 := h.p0
  have h1 := h.p3
  have h2 := h.n0
  have h3 := h.n1
  have HP := Lib.hid h
  clear h
  unfold cliCells
  go_enter Try.func15, Try.ntmps15
  go_wp2_with fail
  have HL := Lib.hid hl
  clear hl
  go_loopw [3, 29] (fun s3 s29 wr => ∃ k : Nat, k ≤ n ∧ s29 = .int .i64 k ∧ s3 = .int .i64 (lastOf ws k) ∧ Blk wr w.heap.size 26 (cliCells p nx (.slice A n c) f) ∧ Below w.heap.size w wr) (fun _ s29 _ => n - (intOf s29).toNat)
  case atStart => exact ⟨0, Nat.zero_le _, rfl, rfl, Blk.new _ _ _, (Below.refl _ _).alloc (Nat.le_refl _) _⟩
  case round =>
    obtain ⟨k, hk, rfl, rfl, E, bel⟩ := hrel
    by_cases hlt : k < n
    · obtain ⟨b, off, rfl, hb, y0, y1, y2, y3, y4, y5⟩ := evAt HL.out (hr.below (bel.mono hB)) hlt
      obtain ⟨a0, a1, a2, a3, a4, a5⟩ := HP.out.ids k (by rw [HL.out]; exact hlt)
      have hck := cli_ev_ok h0 h1 a0 (by omega) a3 a4
      have HLK := Lib.hid (show lastOf ws (k + 1) = (ws.getD k (0, 0)).1 by simp [lastOf])
      generalize (ws.getD k (0, 0)).1 = id at *
      generalize (ws.getD k (0, 0)).2 = body at *
      generalize lastOf ws k = last at *
      have CK := fun W => Lib.hid (check_any 1 p id body 0 0 W)
      rw [hck] at CK
      obtain ⟨x0, x1, x2, x3, x4, x5, x6⟩ := cliBlk E
      have z0 := E.lt
      have zb : b < wr.heap.size := by omega
      have i1 : IntKind.i64.wrap (nx - id) = nx - id := IntWalk.i64_in _ (by omega)
      have hI : (k : Int) < (n : Int) := by omega
      have i2 : IntKind.i64.wrap ((k : Int) + 1) = (k : Int) + 1 := IntWalk.i64_in _ (by omega)
      clear hck hr
      go_wp2_with fail
      refine ((CK _).out).mono ?_
      rintro e w2 ⟨rfl, b2⟩
      have EV := (Blk.new wr 44 #[.int .i64 1, .int .i64 p, .int .i64 id, .int .i64 body, .int .i64 0, .int .i64 0]).below b2 (by simp)
      have E2 := (E.alloc (.cells #[.int .i64 1, .int .i64 p, .int .i64 id, .int .i64 body, .int .i64 0, .int .i64 0] 44)).below b2 (by simp; omega)
      have bel2 := (bel.alloc bel.size (.cells #[.int .i64 1, .int .i64 p, .int .i64 id, .int .i64 body, .int .i64 0, .int .i64 0] 44)).trans (b2.mono (by simp; omega))
      clear x0 x1 x2 x3 x4 x5 x6 z0 zb E bel b2 CK y0 y1 y2 y3 y4 y5
      have v0 := EV.cell 0
      have v1 := EV.cell 1
      have v2 := EV.cell 2
      have vz := EV.lt
      obtain ⟨x0, x1, x2, x3, x4, x5, x6⟩ := cliBlk E2
      have z0 := E2.lt
      have j1 : ¬ id ≤ last := by omega
      have j2 : ¬ nx ≤ id := by omega
      have j3 : ¬ 8 < nx - id := by omega
      go_wp2_with fail
      go_roundw
      case rel => exact ⟨k + 1, by omega, by go_num, by rw [HLK.out], E2, bel2⟩
      case measure => simp [intOf]; omega
    · obtain rfl : k = n := by omega
      obtain ⟨x0, x1, x2, x3, x4, x5, x6⟩ := cliBlk E
      go_wp2_with fail
      go_loop [74] (fun i => ∃ q : Nat, q ≤ 4 ∧ i = .int .i64 q) (fun i => 4 - (intOf i).toNat)
      case atStart => exact ⟨0, by omega, rfl⟩
      case round =>
      obtain ⟨q, hq, rfl⟩ := hrel
      rcases (show q = 0 ∨ q = 1 ∨ q = 2 ∨ q = 3 ∨ q = 4 by omega) with rfl | rfl | rfl | rfl | rfl
      · have i0 : ∀ W : World, (Instr.index 24 (.agg #[.int .i64 (f 0), .int .i64 (f 1), .int .i64 (f 2), .int .i64 (f 3)]) (.int .i64 0)).run Try.prog W = .ok (.int .i64 (f 0)) W := fun _ => by kernel_rfl
        obtain ⟨q1, q2⟩ := HP.out.wh 0 (by omega)
        have j1 : ¬ f 0 < -1 := by omega
        have j2 : ¬ 5 ≤ f 0 := by omega
        go_wp2
        go_round
        case rel => exact ⟨1, by omega, rfl⟩
        case measure => simp [intOf]
      · have i0 : ∀ W : World, (Instr.index 24 (.agg #[.int .i64 (f 0), .int .i64 (f 1), .int .i64 (f 2), .int .i64 (f 3)]) (.int .i64 1)).run Try.prog W = .ok (.int .i64 (f 1)) W := fun _ => by kernel_rfl
        obtain ⟨q1, q2⟩ := HP.out.wh 1 (by omega)
        have j1 : ¬ f 1 < -1 := by omega
        have j2 : ¬ 5 ≤ f 1 := by omega
        go_wp2
        go_round
        case rel => exact ⟨2, by omega, rfl⟩
        case measure => simp [intOf]
      · have i0 : ∀ W : World, (Instr.index 24 (.agg #[.int .i64 (f 0), .int .i64 (f 1), .int .i64 (f 2), .int .i64 (f 3)]) (.int .i64 2)).run Try.prog W = .ok (.int .i64 (f 2)) W := fun _ => by kernel_rfl
        obtain ⟨q1, q2⟩ := HP.out.wh 2 (by omega)
        have j1 : ¬ f 2 < -1 := by omega
        have j2 : ¬ 5 ≤ f 2 := by omega
        go_wp2
        go_round
        case rel => exact ⟨3, by omega, rfl⟩
        case measure => simp [intOf]
      · have i0 : ∀ W : World, (Instr.index 24 (.agg #[.int .i64 (f 0), .int .i64 (f 1), .int .i64 (f 2), .int .i64 (f 3)]) (.int .i64 3)).run Try.prog W = .ok (.int .i64 (f 3)) W := fun _ => by kernel_rfl
        obtain ⟨q1, q2⟩ := HP.out.wh 3 (by omega)
        have j1 : ¬ f 3 < -1 := by omega
        have j2 : ¬ 5 ≤ f 3 := by omega
        go_wp2
        go_round
        case rel => exact ⟨4, by omega, rfl⟩
        case measure => simp [intOf]
      · go_wp2
        go_ret
        exact ⟨rfl, bel⟩

end Go.Proofs.Ytjmncbfmjeeneaa.Cl

namespace Go.Proofs.Ytjmncbfmjeeneaa.Cl
open Go.RowKit

theorem ev_info : (Try.prog.info? 44).map (fun i => (i.zero, i.size, i.bytes)) = some (some (.agg #[.int .i64 0, .int .i64 0, .int .i64 0, .int .i64 0, .int .i64 0, .int .i64 0]), 6, 48) := by kernel_rfl
theorem evRow_one (p : Int) (ws : List (Int × Int)) : ∀ u ∈ evRow p ws, u.oneCell' = true := by
  intro u hu
  obtain ⟨r, _, hu⟩ := List.mem_flatMap.1 hu
  obtain ⟨z, _, rfl⟩ := List.mem_map.1 hu
  rfl

/-- a copy, in new memory -/
def ClonePost (w : World) (n : Nat) (xs : List Value) (ed : Ending) (w' : World) : Prop := Gives w 44 6 n xs ed w'

set_option maxRecDepth 100000 in
set_option maxHeartbeats 400000 in
theorem clone_ev (A : Option Addr) (n c B : Nat) (xs : List Value) (w : World) (h : Reads w B 6 A n xs) (hx : ∀ u ∈ xs, u.oneCell' = true) (hn : n ≤ c) (hc : n ≤ 100000) (hB : B ≤ w.heap.size) :
    Calls Try.prog 49 #[.slice A n c] w (ClonePost w n xs) := by
  obtain ⟨i0, hi0, hz0, hz1, hz2⟩ := info_parts ev_info
  have hnil := fun (W : World) => Lib.run_eql_slice_nil (P := Try.prog) W 23 44 A n c 0 0 Try.underlying23
  rcases A with _ | ad
  · have h0 : n = 0 := by
      rcases Nat.eq_zero_or_pos n with h0 | h0
      · exact h0
      · obtain ⟨_, h1, _⟩ := h.2 h0; cases h1
    subst h0
    have hd : xs = [] := List.eq_nil_of_length_eq_zero (by simpa using h.1)
    subst hd
    have FIN := Lib.hid (show ClonePost w 0 [] (.returned (.slice none 0 0)) w from ⟨_, rfl, World.ownsRow_nil _ _ _ _, Below.refl _ _⟩)
    generalize ClonePost w 0 [] = POST at *
    clear h hx
    go_enter Try.func49, Try.ntmps49
    go_wp2
    exact FIN.out
  · have FIN : ∀ v w1 w2, Below w.heap.size w w1 → w2.ownsRow w.heap.size 44 6 v (0 + n) ([] ++ xs) → w1.grownBy w2 (some w.heap.size) → ClonePost w n xs (.returned v) w2 := fun v w1 w2 hb ho hg => by
      rw [Nat.zero_add, List.nil_append] at ho
      exact ⟨v, rfl, ho, hb.grown hg hb.size (fun k hk => by cases hk; exact Nat.le_refl _)⟩
    have FH := Lib.hid FIN
    clear FIN
    generalize ClonePost w n xs = POST at *
    have h1 := h.alloc hB (.cells #[] 44)
    have o0 : (w.alloc (.cells #[] 44)).ownsRow w.heap.size 44 6 (.slice (some ⟨w.heap.size, 0, none⟩) 0 0) 0 [] :=
      ⟨by simp, .inr ⟨w.heap.size, 0, #[], rfl, Nat.le_refl _, heap_alloc_new w _, Nat.le_refl _, by simp [maxLen], by simp, by simp⟩⟩
    have b0 := (Below.refl w.heap.size w).alloc (Nat.le_refl _) (.cells #[] 44)
    clear h
    go_enter Try.func49, Try.ntmps49
    go_wp2_with (at_builtin; refine wpList_append_any _ rfl (.tmp 5) (.tmp 6) _ rfl w.heap.size 44 i0 _ 6 48 Try.underlying23 hi0 hz0 hz1 hz2 rfl (by omega) (.slice (some ⟨w.heap.size, 0, none⟩) 0 0) 0 [] rfl o0 B (some ad) n c xs rfl h1 hx (by simp only [maxLen]; omega) (by omega) (by simp) ?_; intro v1 w1 o1 g1 at1)
    exact FH.out _ _ _ b0 o1 g1

theorem blk2 (w : World) (a b : TypeId) (A B : Array Value) :
    Blk ((w.alloc (.cells A a)).alloc (.cells B b)) w.heap.size a A ∧ Blk ((w.alloc (.cells A a)).alloc (.cells B b)) (w.heap.size + 1) b B ∧ Below w.heap.size w ((w.alloc (.cells A a)).alloc (.cells B b)) := by
  refine ⟨(Blk.new w a A).alloc _, ?_, ((Below.refl _ _).alloc (Nat.le_refl _) _).alloc (by simp) _⟩
  have := Blk.new (w.alloc (.cells A a)) b B
  rwa [World.size_alloc] at this

theorem put7_eq (w : World) (g : Nat) (a b c d e f h : Value) :
    ((((((w.setCell ⟨g, 0, none⟩ a).setCell ⟨g, 1, none⟩ b).setCell ⟨g, 2, none⟩ c).setCell ⟨g, 3, none⟩ d).setCell ⟨g, 4, none⟩ e).setCell ⟨g, 5, none⟩ f).setCell ⟨g, 6, none⟩ h = putFrom w g 0 [a, b, c, d, e, f, h] := rfl

/-- a client with what waits in its own memory -/
def OwnPost (w : World) (p nx : Int) (n : Nat) (xs : List Value) (f : Nat → Int) (e : Ending) (w' : World) : Prop :=
  ∃ v, e = .returned (.agg (cliCells p nx v f)) ∧ w'.ownsRow w.heap.size 44 6 v n xs ∧ Below w.heap.size w w'

set_option maxRecDepth 100000 in
set_option maxHeartbeats 800000 in
theorem own_ok (p nx : Int) (A : Option Addr) (n c B : Nat) (xs : List Value) (f : Nat → Int) (w : World) (h : Reads w B 6 A n xs) (hx : ∀ u ∈ xs, u.oneCell' = true) (hn : n ≤ c) (hc : n ≤ 100000) (hB : B ≤ w.heap.size) :
    Calls Try.prog 24 #[.agg (cliCells p nx (.slice A n c) f)] w (OwnPost w p nx n xs f) := by
  have CC := Lib.hid (fun W hr hb => clone_ev A n c B xs W hr hx hn hc hb)
  obtain ⟨E, F, bel⟩ := blk2 w 26 26 (cliCells p nx (.slice A n c) f) (cliCells 0 0 (.slice none 0 0) (fun _ => 0))
  have hr := (h.alloc hB (.cells (cliCells p nx (.slice A n c) f) 26)).alloc (by simp; omega) (.cells (cliCells 0 0 (.slice none 0 0) (fun _ => 0)) 26)
  have HP := Lib.hid (show ∀ v w', w'.ownsRow w.heap.size 44 6 v n xs → Below w.heap.size w w' → OwnPost w p nx n xs f (.returned (.agg (cliCells p nx v f))) w' from fun v w' h1 h2 => ⟨v, rfl, h1, h2⟩)
  generalize OwnPost w p nx n xs f = POST at *
  clear h
  unfold cliCells at *
  go_enter Try.func24, Try.ntmps24
  go_wp2_with fail
  refine (CC.out _ hr (by simp; omega)).mono ?_
  rintro e w1 ⟨v, rfl, o1, b1⟩
  obtain ⟨A2, c2, rfl, hc2, _⟩ := own_shape o1
  have E1 := E.below b1 E.lt
  have F1 := F.below b1 F.lt
  have bel1 := bel.trans (b1.mono (by simp; omega))
  have o2 := own_base (base' := w.heap.size) o1 (by simp; omega)
  have n1 := own_blk_ne o2 E1 (by decide)
  have n2 := own_blk_ne o2 F1 (by decide)
  have x0 := E1.cell 0
  have x1 := E1.cell 1
  have x2 := E1.cell 2
  have x3 := E1.cell 3
  have x4 := E1.cell 4
  have x5 := E1.cell 5
  have x6 := E1.cell 6
  have y0 := F1.cell 0
  have y1 := F1.cell 1
  have y2 := F1.cell 2
  have y3 := F1.cell 3
  have y4 := F1.cell 4
  have y5 := F1.cell 5
  have y6 := F1.cell 6
  have xf := E1.frozen
  have yf := F1.frozen
  clear CC hr E F bel o1 b1
  have hfin := HP.out _ _ (putFrom_own (g := w.heap.size + 1) n2 [.int .i64 p, .int .i64 nx, .slice A2 n c2, .int .i64 (f 0), .int .i64 (f 1), .int .i64 (f 2), .int .i64 (f 3)] 0 _ (ownsRow_setCell_other (a := ⟨w.heap.size, 2, none⟩) o2 n1 (.slice A2 n c2)))
    (putFrom_below (g := w.heap.size + 1) (by simp) [.int .i64 p, .int .i64 nx, .slice A2 n c2, .int .i64 (f 0), .int .i64 (f 1), .int .i64 (f 2), .int .i64 (f 3)] 0 _ (bel1.setCell (p := ⟨w.heap.size, 2, none⟩) (Nat.le_refl _) (.slice A2 n c2)))
  go_wp2_with fail
  exact bodyPost_ret (v := .agg #[.int .i64 p, .int .i64 nx, .slice A2 n c2, .int .i64 (f 0), .int .i64 (f 1), .int .i64 (f 2), .int .i64 (f 3)]) (by simp [results, Try.results24, go_sem, *]) rfl (by rw [put7_eq]; exact hfin)

end Go.Proofs.Ytjmncbfmjeeneaa.Cl

namespace Go.Proofs.Ytjmncbfmjeeneaa.Cl
open Go.RowKit

def newN (k : Nat) (j : Nat) : Int := if j < k then -1 else 0
def Puts2 (w : World) (u v : Value) (e : Ending) (w' : World) : Prop := e = .returned (.tuple #[u, v]) ∧ Below w.heap.size w w'

set_option maxRecDepth 100000 in
set_option maxHeartbeats 2000000 in
theorem cnew_ok (p : Int) (w : World) (h0 : 0 ≤ p) (h1 : p ≤ 3) :
    Calls Try.prog 9 #[.int .i64 p] w (Puts2 w (.agg (cliCells p 0 (.slice none 0 0) (fun _ => -1))) (.int .i64 0)) := by
  go_enter Try.func9, Try.ntmps9
  go_wp2_with fail
  obtain ⟨E, F, bel⟩ := blk2 w 26 26 (cliCells 0 0 (.slice none 0 0) (fun _ => 0)) (cliCells p 0 (.slice none 0 0) (newN 0))
  go_loopw [15] (fun i wr => ∃ k : Nat, k ≤ 4 ∧ i = .int .i64 k ∧ Blk wr w.heap.size 26 (cliCells 0 0 (.slice none 0 0) (fun _ => 0)) ∧ Blk wr (w.heap.size + 1) 26 (cliCells p 0 (.slice none 0 0) (newN k)) ∧ Below w.heap.size w wr) (fun i _ => 4 - (intOf i).toNat)
  case atStart => exact ⟨0, by omega, rfl, E, F, bel⟩
  case round =>
    clear E F bel
    obtain ⟨k, hk, rfl, E1, E2, hbel⟩ := hrel
    have z1 := E1.lt
    have z2 := E2.lt
    rcases (show k = 0 ∨ k = 1 ∨ k = 2 ∨ k = 3 ∨ k = 4 by omega) with rfl | rfl | rfl | rfl | rfl
    iterate 4
      · obtain ⟨c0, c1, c2, c3, c4, c5, c6⟩ := cliBlk E2
        have gf := E2.frozen
        go_wp2
        go_roundw
        case rel => first
          | exact ⟨1, by omega, rfl, E1.far (by simp) _, by simpa [cliCells, newN] using E2.set_ 3 (.int .i64 (-1)), hbel.setCell (by simp) _⟩
          | exact ⟨2, by omega, rfl, E1.far (by simp) _, by simpa [cliCells, newN] using E2.set_ 4 (.int .i64 (-1)), hbel.setCell (by simp) _⟩
          | exact ⟨3, by omega, rfl, E1.far (by simp) _, by simpa [cliCells, newN] using E2.set_ 5 (.int .i64 (-1)), hbel.setCell (by simp) _⟩
          | exact ⟨4, by omega, rfl, E1.far (by simp) _, by simpa [cliCells, newN] using E2.set_ 6 (.int .i64 (-1)), hbel.setCell (by simp) _⟩
        case measure => simp [intOf]
    · obtain ⟨c0, c1, c2, c3, c4, c5, c6⟩ := cliBlk E2
      obtain ⟨b0, b1, b2, b3, b4, b5, b6⟩ := cliBlk E1
      have gf := E1.frozen
      simp [newN] at c3 c4 c5 c6
      go_wp2
      exact bodyPost_ret (v := .tuple #[.agg (cliCells p 0 (.slice none 0 0) (fun _ => -1)), .int .i64 0]) (by simp [results, Try.results9, go_sem, cliCells, *]) rfl ⟨rfl, (by (repeat' (first | with_reducible exact hbel | with_reducible refine Below.setCell ?_ ?_ _)) <;> simp)⟩


end Go.Proofs.Ytjmncbfmjeeneaa.Cl

namespace Go.Proofs.Ytjmncbfmjeeneaa.Cl
open Go.RowKit

theorem rowCells_append (a b : List (List Int)) : rowCells (a ++ b) = rowCells a ++ rowCells b := by simp [rowCells]
theorem evRow_snoc (p : Int) (ws : List (Int × Int)) (x : Int × Int) : evRow p (ws ++ [x]) = evRow p ws ++ [.int .i64 1, .int .i64 p, .int .i64 x.1, .int .i64 x.2, .int .i64 0, .int .i64 0] := by
  unfold evRow
  rw [List.map_append, rowCells_append]
  rfl
def evCells (p id body : Int) : Array Value := #[.int .i64 1, .int .i64 p, .int .i64 id, .int .i64 body, .int .i64 0, .int .i64 0]
theorem reads_one (w : World) (t : TypeId) (cs : Array Value) (k : Nat) (hk : cs.size = k) : Reads (w.alloc (.cells cs t)) (w.heap.size + 1) k (some ⟨w.heap.size, 0, none⟩) 1 cs.toList := by
  refine ⟨by simp [hk], fun _ => ⟨_, rfl, by simp, fun j u hj => ?_⟩⟩
  have e : (⟨w.heap.size, 0, none⟩ : Addr).add j = ⟨w.heap.size, j, none⟩ := by
    unfold Addr.add
    by_cases h : j = 0 <;> simp [h]
  rw [e, (Blk.new w t cs).cell j]
  simpa using hj

theorem put6_eq (w : World) (g : Nat) (a b c d e f : Value) :
    (((((w.setCell ⟨g, 0, none⟩ a).setCell ⟨g, 1, none⟩ b).setCell ⟨g, 2, none⟩ c).setCell ⟨g, 3, none⟩ d).setCell ⟨g, 4, none⟩ e).setCell ⟨g, 5, none⟩ f = putFrom w g 0 [a, b, c, d, e, f] := rfl

def SendPost (w : World) (p nx body : Int) (n : Nat) (ws : List (Int × Int)) (f : Nat → Int) (e : Ending) (w' : World) : Prop :=
  ∃ v, e = .returned (.tuple #[.agg (cliCells p (nx + 1) v f), .agg (evCells p nx body), .int .i64 0]) ∧ w'.ownsRow w.heap.size 44 6 v (n + 1) (evRow p (ws ++ [(nx, body)])) ∧ Below w.heap.size w w'

theorem blk3' (w : World) (a b c : TypeId) (A B C : Array Value) : let W := ((w.alloc (.cells A a)).alloc (.cells B b)).alloc (.cells C c)
    Blk W w.heap.size a A ∧ Blk W (w.heap.size + 1) b B ∧ Blk W (w.heap.size + 1 + 1) c C ∧ Below w.heap.size w W := by
  obtain ⟨h1, h2, h3⟩ := blk2 w a b A B
  refine ⟨h1.alloc _, h2.alloc _, ?_, h3.alloc (by simp; omega) _⟩
  have := Blk.new ((w.alloc (.cells A a)).alloc (.cells B b)) c C
  rwa [World.size_alloc, World.size_alloc] at this

set_option maxRecDepth 100000 in
set_option maxHeartbeats 2000000 in
theorem csend_ok (p nx body : Int) (A : Option Addr) (n c B : Nat) (ws : List (Int × Int)) (f : Nat → Int) (w : World) (h : ClOk p nx ws f) (hl : ws.length = n) (hn : n ≤ 100) (hnc : n ≤ c) (hr : Reads w B 6 A n (evRow p ws)) (hB : B ≤ w.heap.size)
    (hnx : nx < 1073741824) (hfirst : n = 0 ∨ nx - (ws.getD 0 (0, 0)).1 < 8) (hb0 : 0 ≤ body) (hb1 : body ≤ 1000000) :
    Calls Try.prog 11 #[.agg (cliCells p nx (.slice A n c) f), .int .i64 body] w (SendPost w p nx body n ws f) := by
  obtain ⟨i0, hi0, hz0, hz1, hz2⟩ := info_parts ev_info
  have CC := Lib.hid (fun W hr hb => ccheck_ok p nx A n c B ws f W h hl hn hr hb)
  have CO := Lib.hid (fun W hr hb => own_ok p nx A n c B (evRow p ws) f W hr (evRow_one p ws) hnc (by omega) hb)
  have hn0 := h.n0
  have hid := fun k hk => h.ids k hk
  have HP := Lib.hid (show ∀ v w', w'.ownsRow w.heap.size 44 6 v (n + 1) (evRow p ws ++ (evCells p nx body).toList) → Below w.heap.size w w' → SendPost w p nx body n ws f (.returned (.tuple #[.agg (cliCells p (nx + 1) v f), .agg (evCells p nx body), .int .i64 0])) w' from fun v w' h1 h2 => ⟨v, rfl, by rw [evRow_snoc]; exact h1, h2⟩)
  generalize SendPost w p nx body n ws f = POST at *
  obtain ⟨E, F, G, bel⟩ := blk3' w 26 26 44 (cliCells p nx (.slice A n c) f) (cliCells 0 0 (.slice none 0 0) (fun _ => 0)) #[.int .i64 0, .int .i64 0, .int .i64 0, .int .i64 0, .int .i64 0, .int .i64 0]
  have hr2 := ((hr.alloc hB (.cells (cliCells p nx (.slice A n c) f) 26)).alloc (by simp; omega) (.cells (cliCells 0 0 (.slice none 0 0) (fun _ => 0)) 26)).alloc (by simp; omega) (.cells #[.int .i64 0, .int .i64 0, .int .i64 0, .int .i64 0, .int .i64 0, .int .i64 0] 44)
  clear h hr
  go_enter Try.func11, Try.ntmps11
  unfold cliCells at *
  go_wp2_with fail
  refine (CC.out _ hr2 (by simp; omega)).mono ?_
  rintro e w1 ⟨rfl, b1⟩
  have E1 := E.below b1 E.lt
  have F1 := F.below b1 F.lt
  have G1 := G.below b1 G.lt
  have bel1 := bel.trans (b1.mono (by simp; omega))
  have hr3 := hr2.below (b1.mono (by simp; omega))
  have hq1 := bel1.size
  clear CC E F G bel b1 hr2
  have x0 := E1.cell 0
  have x1 := E1.cell 1
  have x2 := E1.cell 2
  have x3 := E1.cell 3
  have x4 := E1.cell 4
  have x5 := E1.cell 5
  have x6 := E1.cell 6
  have z3 := G1.lt
  have hc1 : ¬ body < 0 := by omega
  have hc2 : ¬ 1000000 < body := by omega
  have hc3 : ¬ nx = 1073741824 := by omega
  have hcase : (¬ 0 < n ∧ ¬ (0 : Int) < (n : Int)) ∨ (∃ b off id0, A = some ⟨b, off, none⟩ ∧ b < w1.heap.size ∧ w1.cell? ⟨b, off + 2, none⟩ = some (.int .i64 id0) ∧ 0 < n ∧ (0 : Int) < (n : Int) ∧ IntKind.i64.wrap (nx - id0) = nx - id0 ∧ ¬ 8 ≤ nx - id0) := by
    by_cases hn0' : n = 0
    · left; omega
    · right
      obtain ⟨b, off, hA, hb, y0, y1, y2, y3, y4, y5⟩ := evAt hl hr3 (show 0 < n by omega)
      simp only [Nat.zero_mul, Nat.add_zero] at y2
      obtain ⟨d0, d1, d2, _⟩ := hid 0 (by omega)
      exact ⟨b, off, _, hA, by omega, y2, by omega, by omega, IntWalk.i64_in _ (by omega), by omega⟩
  have hc4 : (nx == 1073741824) = false := by rw [beq_eq_false_iff_ne]; exact hc3
  have i2 : IntKind.i64.wrap (nx + 1) = nx + 1 := IntWalk.i64_in _ (by omega)
  clear hid hfirst hl hc3
  rcases hcase with ⟨hN, hNI⟩ | ⟨b, off, id0, rfl, hbw, y2, hN, hNI, i1, hd2⟩
  all_goals
    go_wp2_with fail
    go_quiet (fail)
    have E2 : Blk (w1.drewN nq) w.heap.size 26 _ := E1.drewN nq
    have F2 : Blk (w1.drewN nq) (w.heap.size + 1) 26 _ := F1.drewN nq
    have G2 : Blk (w1.drewN nq) (w.heap.size + 1 + 1) 44 _ := G1.drewN nq
    have bel2 := below_drewN bel1 nq
    have hr4 := hr3.drewN nq
    have hq2 : w.heap.size ≤ (w1.drewN nq).heap.size := hq1
    generalize w1.drewN nq = w2 at *
    clear x0 x1 x2 x3 x4 x5 x6 z3 E1 F1 G1 bel1 hr3 hq1
    have x0 := E2.cell 0
    have x1 := E2.cell 1
    have x2 := E2.cell 2
    have x3 := E2.cell 3
    have x4 := E2.cell 4
    have x5 := E2.cell 5
    have x6 := E2.cell 6
    have z1 := E2.lt
    have z2 := F2.lt
    have z3 := G2.lt
    go_wp2_with fail
    refine (CO.out _ (hr4.alloc (by omega) (.cells (evCells p nx body) 44)) (by simp; omega)).mono ?_
    rintro e w3 ⟨v, rfl, o3, b3⟩
    obtain ⟨A2, c2, rfl, hc2, _⟩ := own_shape o3
    have E3 := (E2.alloc (.cells (evCells p nx body) 44)).below b3 (by simp; omega)
    have F3 := (F2.alloc (.cells (evCells p nx body) 44)).below b3 (by simp; omega)
    have G3 := (G2.alloc (.cells (evCells p nx body) 44)).below b3 (by simp; omega)
    have X3 := (Blk.new w2 44 (evCells p nx body)).below b3 (by simp)
    have bel3 := (bel2.alloc hq2 (.cells (evCells p nx body) 44)).trans (b3.mono (by simp; omega))
    have o4 := own_base (base' := w.heap.size) o3 (by simp; omega)
    have ng : ∀ k, (Value.slice A2 n c2).ownBlock = some k → w2.heap.size + 1 ≤ k := fun k hk => Nat.le_trans (by simp) (World.ownsRow.lt o3 k hk).1
    have z4 := X3.lt
    obtain ⟨gx, hgx⟩ : ∃ gx, gx = w2.heap.size := ⟨_, rfl⟩
    rw [← hgx] at X3 z1 z2 z3 z4 ng ⊢
    clear x0 x1 x2 x3 x4 x5 x6 E2 F2 G2 bel2 hr4 o3 b3 CO hgx
    have n1 := own_blk_ne o4 E3 (by decide)
    have x0 := E3.cell 0
    have x1 := E3.cell 1
    have x2 := E3.cell 2
    have x3 := E3.cell 3
    have x4 := E3.cell 4
    have x5 := E3.cell 5
    have x6 := E3.cell 6
    have xf := E3.frozen
    have zE := E3.lt
    have E4 := putFrom_blk E3 [.int .i64 p, .int .i64 nx, .slice A2 n c2, .int .i64 (f 0), .int .i64 (f 1), .int .i64 (f 2), .int .i64 (f 3)] rfl
    have F4 := putFrom_far (g := w.heap.size) (show w.heap.size + 1 ≠ w.heap.size by omega) [.int .i64 p, .int .i64 nx, .slice A2 n c2, .int .i64 (f 0), .int .i64 (f 1), .int .i64 (f 2), .int .i64 (f 3)] 0 _ F3
    have G4 := putFrom_far (g := w.heap.size) (show w.heap.size + 1 + 1 ≠ w.heap.size by omega) [.int .i64 p, .int .i64 nx, .slice A2 n c2, .int .i64 (f 0), .int .i64 (f 1), .int .i64 (f 2), .int .i64 (f 3)] 0 _ G3
    have X4 := putFrom_far (g := w.heap.size) (show gx ≠ w.heap.size by omega) [.int .i64 p, .int .i64 nx, .slice A2 n c2, .int .i64 (f 0), .int .i64 (f 1), .int .i64 (f 2), .int .i64 (f 3)] 0 _ X3
    have o5 := putFrom_own (g := w.heap.size) n1 [.int .i64 p, .int .i64 nx, .slice A2 n c2, .int .i64 (f 0), .int .i64 (f 1), .int .i64 (f 2), .int .i64 (f 3)] 0 _ o4
    have bel4 := putFrom_below (g := w.heap.size) (Nat.le_refl w.heap.size) [.int .i64 p, .int .i64 nx, .slice A2 n c2, .int .i64 (f 0), .int .i64 (f 1), .int .i64 (f 2), .int .i64 (f 3)] 0 _ bel3
    unfold cliCells
    go_upto_region 10 with fail
    rw [put7_eq]
    generalize putFrom w3 w.heap.size 0 [.int .i64 p, .int .i64 nx, .slice A2 n c2, .int .i64 (f 0), .int .i64 (f 1), .int .i64 (f 2), .int .i64 (f 3)] = w4 at *
    clear x0 x1 x2 x3 x4 x5 x6 xf zE E3 F3 G3 X3 o4 bel3 n1
    have n1 := own_blk_ne o5 E4 (by decide)
    have n2 := own_blk_ne o5 F4 (by decide)
    have x2 : w4.cell? ⟨w.heap.size, 2, none⟩ = some (.slice A2 n c2) := E4.cell 2
    have X5 := Blk.cell (t := 44) (cs := evCells p nx body) X4
    have v0 := X5 0
    have v1 := X5 1
    have v2 := X5 2
    have v3 := X5 3
    have v4 := X5 4
    have v5 := X5 5
    have z5 := X4.lt
    have zE := E4.lt
    have hs4 := bel4.size
    have o6 := o5.alloc (.cells (evCells p nx body) 44)
    have rR := reads_one w4 44 (evCells p nx body) 6 rfl
    have hone : ∀ u ∈ (evCells p nx body).toList, u.oneCell' = true := by
      intro u hu
      simp [evCells] at hu
      rcases hu with h | h | h | h | h <;> subst h <;> rfl
    clear X5
    unfold evCells at v0 v1 v2 v3 v4 v5
    go_upto_region 11 with (at_builtin; refine wpList_append_any _ rfl (.tmp 58) (.tmp 60) _ rfl w.heap.size 44 i0 _ 6 48 Try.underlying23 hi0 hz0 hz1 hz2 rfl (by omega) (.slice A2 n c2) n (evRow p ws) rfl o6 _ (some ⟨w4.heap.size, 0, none⟩) 1 1 (evCells p nx body).toList rfl rR hone (by simp only [maxLen]; omega) (by omega) (by simp; omega) ?_; intro v6 w6 o7 g6 at6; have E6 := (E4.alloc (.cells (evCells p nx body) 44)).grown g6 (fun h => n1 h.symm); have F6 := (F4.alloc (.cells (evCells p nx body) 44)).grown g6 (fun h => n2 h.symm); have G6 := (G4.alloc (.cells (evCells p nx body) 44)).grown g6 (fun h => (by have := ng _ h.symm; omega)); have X6 := (X4.alloc (.cells (evCells p nx body) 44)).grown g6 (fun h => (by have := ng _ h.symm; omega)); have bel6 := (bel4.alloc hs4 (.cells (evCells p nx body) 44)).grown g6 (by simp; omega) (fun k hk => (by have := ng _ hk; omega)); have ng6 : ∀ k, v6.ownBlock = some k → gx < k := (fun k hk => at6.elim (fun h => ng k (h ▸ hk)) (fun h => (by rw [h] at hk; injection hk with hk; simp at hk; omega))); obtain ⟨A6, c6, rfl, _, _⟩ := own_shape o7; clear x2; have x2 : w6.cell? ⟨w.heap.size, 2, none⟩ = _ := E6.cell 2; have xf := E6.frozen)
    clear x2
    have x1 : w6.cell? ⟨w.heap.size, 1, none⟩ = some (.int .i64 nx) := E6.cell 1
    have hE6 := own_blk_ne o7 E6 (by decide)
    have E7 : Blk ((w6.setCell ⟨w.heap.size, 2, none⟩ (.slice A6 (n + 1) c6)).setCell ⟨w.heap.size, 1, none⟩ (.int .i64 (nx + 1))) w.heap.size 26 #[.int .i64 p, .int .i64 (nx + 1), .slice A6 (n + 1) c6, .int .i64 (f 0), .int .i64 (f 1), .int .i64 (f 2), .int .i64 (f 3)] := (E6.set_ 2 (.slice A6 (n + 1) c6)).set_ 1 (.int .i64 (nx + 1))
    have F7 := (F6.far (p := ⟨w.heap.size, 2, none⟩) (by simp) (.slice A6 (n + 1) c6)).far (p := ⟨w.heap.size, 1, none⟩) (by simp) (.int .i64 (nx + 1))
    have G7 := (G6.far (p := ⟨w.heap.size, 2, none⟩) (by simp; omega) (.slice A6 (n + 1) c6)).far (p := ⟨w.heap.size, 1, none⟩) (by simp; omega) (.int .i64 (nx + 1))
    have X7 := (X6.far (p := ⟨w.heap.size, 2, none⟩) (by simp; omega) (.slice A6 (n + 1) c6)).far (p := ⟨w.heap.size, 1, none⟩) (by simp; omega) (.int .i64 (nx + 1))
    have o8 := ownsRow_setCell_other (a := ⟨w.heap.size, 1, none⟩) (ownsRow_setCell_other (a := ⟨w.heap.size, 2, none⟩) o7 hE6 (.slice A6 (n + 1) c6)) hE6 (.int .i64 (nx + 1))
    have bel7 := (bel6.setCell (p := ⟨w.heap.size, 2, none⟩) (Nat.le_refl _) (.slice A6 (n + 1) c6)).setCell (p := ⟨w.heap.size, 1, none⟩) (Nat.le_refl _) (.int .i64 (nx + 1))
    go_upto_region 12 with fail
    generalize (w6.setCell ⟨w.heap.size, 2, none⟩ (.slice A6 (n + 1) c6)).setCell ⟨w.heap.size, 1, none⟩ (.int .i64 (nx + 1)) = w7 at *
    clear x1 xf v0 v1 v2 v3 v4 v5 z5 zE E6 F6 G6 X6 o7 bel6 hE6
    have x0 := E7.cell 0
    have x1 := E7.cell 1
    have x2 := E7.cell 2
    have x3 := E7.cell 3
    have x4 := E7.cell 4
    have x5 := E7.cell 5
    have x6 := E7.cell 6
    unfold evCells at X7
    have v0 := X7.cell 0
    have v1 := X7.cell 1
    have v2 := X7.cell 2
    have v3 := X7.cell 3
    have v4 := X7.cell 4
    have v5 := X7.cell 5
    have y0 := F7.cell 0
    have y1 := F7.cell 1
    have y2 := F7.cell 2
    have y3 := F7.cell 3
    have y4 := F7.cell 4
    have y5 := F7.cell 5
    have y6 := F7.cell 6
    have u0 := G7.cell 0
    have u1 := G7.cell 1
    have u2 := G7.cell 2
    have u3 := G7.cell 3
    have u4 := G7.cell 4
    have u5 := G7.cell 5
    have yf := F7.frozen
    have uf := G7.frozen
    have nF := own_blk_ne o8 F7 (by decide)
    have nG : (Value.slice A6 (n + 1) c6).ownBlock ≠ some (w.heap.size + 1 + 1) := fun h => by have := ng6 _ h; omega
    have nn1 : ¬ gx = w.heap.size + 1 := by omega
    have nn2 : ¬ gx = w.heap.size + 1 + 1 := by omega
    have nn3 : ¬ gx = w.heap.size := by omega
    have o9 := (putFrom_own (g := w.heap.size + 1 + 1) nG [.int .i64 1, .int .i64 p, .int .i64 nx, .int .i64 body, .int .i64 0, .int .i64 0] 0 _ (putFrom_own (g := w.heap.size + 1) nF [.int .i64 p, .int .i64 (nx + 1), .slice A6 (n + 1) c6, .int .i64 (f 0), .int .i64 (f 1), .int .i64 (f 2), .int .i64 (f 3)] 0 _ o8))
    have b9 := (putFrom_below (g := w.heap.size + 1 + 1) (by omega) [.int .i64 1, .int .i64 p, .int .i64 nx, .int .i64 body, .int .i64 0, .int .i64 0] 0 _ (putFrom_below (g := w.heap.size + 1) (by omega) [.int .i64 p, .int .i64 (nx + 1), .slice A6 (n + 1) c6, .int .i64 (f 0), .int .i64 (f 1), .int .i64 (f 2), .int .i64 (f 3)] 0 _ bel7))
    have hfin := fun W hW => HP.out _ W (own_below o9 hW (Nat.le_refl _)) (b9.trans (hW.mono b9.size))
    go_wp2_with fail
    go_region
    all_goals
      go_wp2_with fail
      exact bodyPost_ret (v := .tuple #[.agg #[.int .i64 p, .int .i64 (nx + 1), .slice A6 (n + 1) c6, .int .i64 (f 0), .int .i64 (f 1), .int .i64 (f 2), .int .i64 (f 3)], .agg #[.int .i64 1, .int .i64 p, .int .i64 nx, .int .i64 body, .int .i64 0, .int .i64 0], .int .i64 0]) (by simp [results, Try.results11, go_sem, *]) rfl (by rw [put7_eq, put6_eq]; exact hfin _ (Below.refl _ _).drew)

end Go.Proofs.Ytjmncbfmjeeneaa.Cl

namespace Go.Proofs.Ytjmncbfmjeeneaa.Cl
open Go.RowKit

def Puts3 (w : World) (u v x : Value) (e : Ending) (w' : World) : Prop := e = .returned (.tuple #[u, v, x]) ∧ Below w.heap.size w w'

set_option maxRecDepth 100000 in
set_option maxHeartbeats 2000000 in
theorem csend_full (p nx body : Int) (A : Option Addr) (n c B : Nat) (ws : List (Int × Int)) (f : Nat → Int) (w : World) (h : ClOk p nx ws f) (hl : ws.length = n) (hn : n ≤ 100) (hr : Reads w B 6 A n (evRow p ws)) (hB : B ≤ w.heap.size)
    (hnx : nx < 1073741824) (hn1 : 0 < n) (hfirst : 8 ≤ nx - (ws.getD 0 (0, 0)).1) (hb0 : 0 ≤ body) (hb1 : body ≤ 1000000) :
    Calls Try.prog 11 #[.agg (cliCells p nx (.slice A n c) f), .int .i64 body] w (Puts3 w (.agg (cliCells 0 0 (.slice none 0 0) (fun _ => 0))) (.agg #[.int .i64 0, .int .i64 0, .int .i64 0, .int .i64 0, .int .i64 0, .int .i64 0]) (.int .i64 14)) := by
  have CC := Lib.hid (fun W hr hb => ccheck_ok p nx A n c B ws f W h hl hn hr hb)
  have hn0 := h.n0
  have hid := fun k hk => h.ids k hk
  have HP := Lib.hid (show ∀ w', Below w.heap.size w w' → Puts3 w (.agg (cliCells 0 0 (.slice none 0 0) (fun _ => 0))) (.agg #[.int .i64 0, .int .i64 0, .int .i64 0, .int .i64 0, .int .i64 0, .int .i64 0]) (.int .i64 14) (.returned (.tuple #[.agg (cliCells 0 0 (.slice none 0 0) (fun _ => 0)), .agg #[.int .i64 0, .int .i64 0, .int .i64 0, .int .i64 0, .int .i64 0, .int .i64 0], .int .i64 14])) w' from fun w' h => ⟨rfl, h⟩)
  generalize Puts3 w (.agg (cliCells 0 0 (.slice none 0 0) (fun _ => 0))) (.agg #[.int .i64 0, .int .i64 0, .int .i64 0, .int .i64 0, .int .i64 0, .int .i64 0]) (.int .i64 14) = POST at *
  obtain ⟨E, F, G, bel⟩ := blk3' w 26 26 44 (cliCells p nx (.slice A n c) f) (cliCells 0 0 (.slice none 0 0) (fun _ => 0)) #[.int .i64 0, .int .i64 0, .int .i64 0, .int .i64 0, .int .i64 0, .int .i64 0]
  have hr2 := ((hr.alloc hB (.cells (cliCells p nx (.slice A n c) f) 26)).alloc (by simp; omega) (.cells (cliCells 0 0 (.slice none 0 0) (fun _ => 0)) 26)).alloc (by simp; omega) (.cells #[.int .i64 0, .int .i64 0, .int .i64 0, .int .i64 0, .int .i64 0, .int .i64 0] 44)
  clear h hr
  go_enter Try.func11, Try.ntmps11
  unfold cliCells at *
  go_wp2_with fail
  refine (CC.out _ hr2 (by simp; omega)).mono ?_
  rintro e w1 ⟨rfl, b1⟩
  have E1 := E.below b1 E.lt
  have F1 := F.below b1 F.lt
  have G1 := G.below b1 G.lt
  have bel1 := bel.trans (b1.mono (by simp; omega))
  have hr3 := hr2.below (b1.mono (by simp; omega))
  have hq1 := bel1.size
  clear CC E F G bel b1 hr2
  have x0 := E1.cell 0
  have x1 := E1.cell 1
  have x2 := E1.cell 2
  have x3 := E1.cell 3
  have x4 := E1.cell 4
  have x5 := E1.cell 5
  have x6 := E1.cell 6
  have z3 := G1.lt
  have hc1 : ¬ body < 0 := by omega
  have hc2 : ¬ 1000000 < body := by omega
  have hc3 : ¬ nx = 1073741824 := by omega
  obtain ⟨b, off, hA, hb, y0, y1, y2, y3, y4, y5⟩ := evAt hl hr3 hn1
  subst hA
  simp only [Nat.zero_mul, Nat.add_zero] at y2
  obtain ⟨d0, d1, d2, _⟩ := hid 0 (by omega)
  generalize (ws.getD 0 (0, 0)).1 = id0 at *
  have hbw : b < w1.heap.size := by omega
  have hNI : (0 : Int) < (n : Int) := by omega
  have i1 : IntKind.i64.wrap (nx - id0) = nx - id0 := IntWalk.i64_in _ (by omega)
  have hc4 : (nx == 1073741824) = false := by rw [beq_eq_false_iff_ne]; exact hc3
  clear hid hl hc3 y0 y1 y3 y4 y5 hr3
  go_wp2_with fail
  go_quiet (fail)
  have E2 : Blk (w1.drewN nq) w.heap.size 26 _ := E1.drewN nq
  have F2 : Blk (w1.drewN nq) (w.heap.size + 1) 26 _ := F1.drewN nq
  have G2 : Blk (w1.drewN nq) (w.heap.size + 1 + 1) 44 _ := G1.drewN nq
  have bel2 := below_drewN bel1 nq
  have hq2 : w.heap.size ≤ (w1.drewN nq).heap.size := hq1
  generalize w1.drewN nq = w2 at *
  clear x0 x1 x2 x3 x4 x5 x6 z3 E1 F1 G1 bel1 hq1
  have y0 := G2.cell 0
  have y1 := G2.cell 1
  have y3 := G2.cell 2
  have y4 := G2.cell 3
  have y5 := G2.cell 4
  have y6 := G2.cell 5
  have x0 := F2.cell 0
  have x1 := F2.cell 1
  have x2 := F2.cell 2
  have x3 := F2.cell 3
  have x4 := F2.cell 4
  have x5 := F2.cell 5
  have x6 := F2.cell 6
  have z1 := E2.lt
  have z2 := F2.lt
  have z3 := G2.lt
  have fF := F2.frozen
  have fG := G2.frozen
  have hbel := putFrom_below (g := w.heap.size + 1 + 1) (by omega) [.int .i64 0, .int .i64 0, .int .i64 0, .int .i64 0, .int .i64 0, .int .i64 0] 0 _ (putFrom_below (g := w.heap.size + 1) (by omega) [.int .i64 0, .int .i64 0, .slice none 0 0, .int .i64 0, .int .i64 0, .int .i64 0, .int .i64 0] 0 _ bel2)
  have hfin := HP.out _ hbel
  clear hbel HP
  go_wp2_with fail
  exact bodyPost_ret (v := .tuple #[.agg #[.int .i64 0, .int .i64 0, .slice none 0 0, .int .i64 0, .int .i64 0, .int .i64 0, .int .i64 0], .agg #[.int .i64 0, .int .i64 0, .int .i64 0, .int .i64 0, .int .i64 0, .int .i64 0], .int .i64 14]) (by simp [results, Try.results11, go_sem, *]) rfl (by rw [put7_eq, put6_eq]; exact hfin)

end Go.Proofs.Ytjmncbfmjeeneaa.Cl

namespace Go.Proofs.Ytjmncbfmjeeneaa.Cl
open Go.RowKit

set_option maxRecDepth 100000 in
set_option maxHeartbeats 400000 in
theorem closure_ok (p i b id : Int) (gb : Nat) (w : World) (h : w.cell? ⟨gb, 0, none⟩ = some (.int .i64 id)) :
    Calls Try.prog 36 #[.agg (evCells p i b), .pointer (some ⟨gb, 0, none⟩)] w (Puts w (.bool (i == id))) := by
  have hb := lt_of_cell h
  have hb2 : gb < w.heap.size := hb
  have hbel := (Below.refl w.heap.size w).alloc (Nat.le_refl _) (.cells (evCells p i b) 44)
  unfold evCells at *
  go_enter Try.func36, Try.ntmps36
  go_wp2
  go_ret
  exact ⟨rfl, hbel⟩

/-- the place of an id -/
def IdAt (ws : List (Int × Int)) (id r : Int) : Prop := (∃ k : Nat, k < ws.length ∧ r = k ∧ (ws.getD k (0, 0)).1 = id ∧ ∀ t, t < k → (ws.getD t (0, 0)).1 ≠ id) ∨ (r = -1 ∧ ∀ t, t < ws.length → (ws.getD t (0, 0)).1 ≠ id)

set_option maxRecDepth 100000 in
set_option maxHeartbeats 1000000 in
theorem index_ev (p : Int) (A : Option Addr) (n c B : Nat) (ws : List (Int × Int)) (id r : Int) (gb : Nat) (w : World) (hl : ws.length = n) (hn : n ≤ 100) (hr : Reads w B 6 A n (evRow p ws)) (hB : B ≤ w.heap.size) (h : w.cell? ⟨gb, 0, none⟩ = some (.int .i64 id)) (hid : IdAt ws id r) :
    Calls Try.prog 35 #[.slice A n c, .func (.func 36) #[] #[.pointer (some ⟨gb, 0, none⟩)]] w (Puts w (.int .i64 r)) := by
  have hgb : gb < w.heap.size := lt_of_cell h
  have HID := Lib.hid hid
  have HL := Lib.hid hl
  clear hid hl
  go_enter Try.func35, Try.ntmps35
  go_wp2_with fail
  go_loopw [8] (fun s8 wr => ∃ k : Nat, k ≤ n ∧ s8 = .int .i64 k ∧ (∀ t, t < k → (ws.getD t (0, 0)).1 ≠ id) ∧ Below w.heap.size w wr) (fun s8 _ => n - (intOf s8).toNat)
  case atStart => exact ⟨0, Nat.zero_le _, rfl, fun t ht => absurd ht (by omega), Below.refl _ _⟩
  case round =>
    obtain ⟨k, hk, rfl, hno, bel⟩ := hrel
    have HNO := Lib.hid hno
    clear hno
    by_cases hlt : k < n
    · obtain ⟨b, off, rfl, hb, y0, y1, y2, y3, y4, y5⟩ := evAt HL.out (hr.below (bel.mono hB)) hlt
      have hcell := (bel.cell (p := ⟨gb, 0, none⟩) hgb).trans h
      have CL := Lib.hid (fun W hc => closure_ok p (ws.getD k (0, 0)).1 (ws.getD k (0, 0)).2 id gb W hc)
      have HK := Lib.hid (show ∀ i, (ws.getD k (0, 0)).1 = i → i ≠ id → ∀ t, t < k + 1 → (ws.getD t (0, 0)).1 ≠ id from fun i hi hne t ht => by
        rcases Nat.lt_or_ge t k with h' | h'
        · exact HNO.out t h'
        · obtain rfl : t = k := by omega
          rw [hi]; exact hne)
      have HF := Lib.hid (show (ws.getD k (0, 0)).1 = id → r = (k : Int) from fun hi => by
        rcases HID.out with ⟨k', h1, h2, h3, h4⟩ | ⟨h1, h2⟩
        · rcases Nat.lt_trichotomy k k' with hh | hh | hh
          · exact absurd hi (h4 k hh)
          · rw [h2, hh]
          · exact absurd h3 (HNO.out k' hh)
        · exact absurd hi (h2 k (by rw [HL.out]; exact hlt)))
      have HKI : ∀ i, (ws.getD k (0, 0)).1 = i → Hid (∀ j, i = j → True) := fun _ _ => Lib.hid (fun _ _ => trivial)
      obtain ⟨i, hi⟩ : ∃ i, (ws.getD k (0, 0)).1 = i := ⟨_, rfl⟩
      have HK2 := Lib.hid (HK.out i hi)
      rw [hi] at y2 CL HF
      generalize (ws.getD k (0, 0)).2 = bd at *
      clear hi HK HKI hr
      have hI : (k : Int) < (n : Int) := by omega
      have i1 : IntKind.i64.wrap ((k : Int) + 1) = (k : Int) + 1 := IntWalk.i64_in _ (by omega)
      have zb : b < wr.heap.size := by have := bel.size; omega
      go_wp2_with fail
      refine (CL.out _ hcell).mono ?_
      rintro e w2 ⟨rfl, b2⟩
      have bel2 := bel.trans (b2.mono bel.size)
      clear CL hcell y0 y1 y2 y3 y4 y5 bel b2 zb
      by_cases heq : i = id
      · have hb1 : (i == id) = true := by rw [beq_iff_eq]; exact heq
        have HRK := Lib.hid (HF.out heq)
        rw [hb1]
        clear hb1 heq HF HID
        go_wp2_with fail
        go_ret
        exact ⟨by rw [HRK.out]; rfl, bel2⟩
      · have hb1 : (i == id) = false := by rw [beq_eq_false_iff_ne]; exact heq
        rw [hb1]
        have hk3 := Lib.hid (HK2.out heq)
        clear hb1 heq HF HK2
        go_wp2_with fail
        go_roundw
        case rel => exact ⟨k + 1, by omega, by go_num, hk3.out, bel2⟩
        case measure => simp [intOf]; omega
    · obtain rfl : k = n := by omega
      have hrm : r = -1 := by
        rcases HID.out with ⟨k', h1, h2, h3, h4⟩ | ⟨h1, h2⟩
        · exact absurd h3 (HNO.out k' (by rw [← HL.out]; exact h1))
        · exact h1
      have HRM := Lib.hid hrm
      clear hrm hr
      go_wp2_with fail
      go_ret
      exact ⟨by rw [HRM.out]; rfl, bel⟩

theorem Blk.setCells {t : TypeId} {g : Nat} : ∀ (vs : List Value) (o : Nat) (w : World) (cs : Array Value), Blk w g t cs → o + vs.length ≤ cs.size → ∃ cs', Blk (w.setCells g o vs) g t cs' ∧ cs'.toList = cs.toList.take o ++ vs ++ cs.toList.drop (o + vs.length) ∧ cs'.size = cs.size
  | [], o, w, cs, h, hl => ⟨cs, h, by simp, rfl⟩
  | v :: vs, o, w, cs, h, hl => by
    simp only [List.length_cons] at hl
    obtain ⟨cs', h1, h2, h3⟩ := Blk.setCells vs (o + 1) (w.setCell ⟨g, o, none⟩ v) (cs.setIfInBounds o v) (h.set_ o v) (by simp; omega)
    refine ⟨cs', h1, ?_, by simpa using h3⟩
    rw [h2, Array.toList_setIfInBounds]
    have hlen : o < cs.toList.length := by simp; omega
    have e1 : (cs.toList.set o v).take (o + 1) = cs.toList.take o ++ [v] := by
      have hto : (cs.toList.take o).length = o := by rw [List.length_take]; omega
      rw [List.set_eq_take_append_cons_drop, if_pos hlen, List.take_append, List.take_of_length_le (by omega), hto, show o + 1 - o = 1 by omega]
      rfl
    have e2 : (cs.toList.set o v).drop (o + 1 + vs.length) = cs.toList.drop (o + (vs.length + 1)) := by
      rw [List.drop_set_of_lt (by omega)]
      congr 1
      omega
    rw [e1, e2]
    simp [List.append_assoc]

theorem run_clear_struct {P : Program} (w : World) (t e ty : TypeId) (z : Value) (zs : List Value) (ht : P.underlying t = some (.slice e)) (hv : ∀ w, (zeroValue e).run P w = .ok z w) (hzc : (Builtin.zeroCells z.cells 1).toList = zs) (h1 : ∀ v ∈ zs, v.oneCell' = true) (b o c : Nat)
    (hc : ∀ j, j < zs.length → (w.cell? ⟨b, o + j, none⟩).isSome = true) (hf : ∀ j, j < zs.length → w.frozen? ⟨b, o + j, none⟩ = false) :
    (Builtin.clear_ #[t] ty #[.slice (some ⟨b, o, none⟩) 1 c]).run P w = .ok (.tuple #[]) (w.setCells b o zs) := by
  have hst := run_storeCells_cells (P := P) b o zs 0 w (by simpa using hc) (by simpa using hf) h1
  simp only [Nat.add_zero] at hst
  simp [Builtin.clear_, run_underlying ht, hv, hzc, hst]

theorem Blk.some_ {w : World} {g : Nat} {t : TypeId} {cs : Array Value} (h : Blk w g t cs) (i : Nat) (hi : i < cs.size) : (w.cell? ⟨g, i, none⟩).isSome = true := by
  rw [h.cell i, Array.getElem?_eq_getElem hi]; rfl

theorem below_setCells' {B b : Nat} {a : World} (hb : B ≤ b) : ∀ (vs : List Value) (o : Nat) (w : World), Below B a w → Below B a (w.setCells b o vs)
  | [], _, _, h => h
  | v :: vs, o, w, h => below_setCells' hb vs (o + 1) (w.setCell ⟨b, o, none⟩ v) (h.setCell hb v)

def zeros6 : List Value := [.int .i64 0, .int .i64 0, .int .i64 0, .int .i64 0, .int .i64 0, .int .i64 0]
theorem ev_zero (w : World) : (zeroValue 44).run Try.prog w = .ok (.agg #[.int .i64 0, .int .i64 0, .int .i64 0, .int .i64 0, .int .i64 0, .int .i64 0]) w := by kernel_rfl

/-- one is taken out, in place -/
def DelPost (w : World) (base g cap n : Nat) (xs : List Value) (e : Ending) (w' : World) : Prop :=
  e = .returned (.slice (some ⟨g, 0, none⟩) n cap) ∧ w'.ownsRow base 44 6 (.slice (some ⟨g, 0, none⟩) n cap) n xs ∧ Below g w w'

set_option maxRecDepth 100000 in
set_option maxHeartbeats 1000000 in
theorem delete_ev (base g cap n k : Nat) (xs : List Value) (w : World) (h : w.ownsRow base 44 6 (.slice (some ⟨g, 0, none⟩) n cap) n xs) (hx : ∀ u ∈ xs, u.oneCell' = true) (hk : k < n) (hn : n ≤ 100) :
    Calls Try.prog 37 #[.slice (some ⟨g, 0, none⟩) n cap, .int .i64 k, .int .i64 ((k : Int) + 1)] w (DelPost w base g cap (n - 1) (xs.take (k * 6) ++ xs.drop ((k + 1) * 6))) := by
  obtain ⟨i0, hi0, hz0, hz1, hz2⟩ := info_parts ev_info
  obtain ⟨hxl, ⟨h1, _⟩ | ⟨g', cap', cur, hv, hbase, hh, hnc, hm, hcs, htk⟩⟩ := h
  · cases h1
  injection hv with e1 e2 e3
  injection e1 with e1
  injection e1 with e1
  subst e1 e3
  have hB : Blk w g 44 cur := hh
  have hBd : Blk w.drew g 44 cur := hB
  obtain ⟨news, hnews⟩ : ∃ news, xs.drop ((k + 1) * 6) = news := ⟨_, rfl⟩
  have hnl : news.length = (n - (k + 1)) * 6 := by rw [← hnews, List.length_drop, hxl]; omega
  have hcl : cur.toList.length = cap * 6 := by simp [hcs]
  have hsrc : Hid (∀ j u, news[j]? = some u → w.drew.cell? ((⟨g, (k + 1) * 6, none⟩ : Addr).add j) = some u) := by
    intro j u hu
    have e : (⟨g, (k + 1) * 6, none⟩ : Addr).add j = ⟨g, (k + 1) * 6 + j, none⟩ := by
      unfold Addr.add
      by_cases h : j = 0 <;> simp [h]
    rw [e, hBd.cell]
    rw [← hnews, List.getElem?_drop, ← htk, List.getElem?_take] at hu
    split at hu
    · simpa using hu
    · cases hu
  have s1 : Hid (news.length = (n - (k + 1)) * 6) := hnl
  have s2 : Hid (∀ u ∈ news, u.oneCell' = true) := fun u hu => hx u (List.mem_of_mem_drop (by rw [hnews]; exact hu))
  have s3 : Hid (∀ j, j < news.length → (w.drew.cell? ⟨g, 0 + k * 6 + j, none⟩).isSome = true ∧ w.drew.frozen? ⟨g, 0 + k * 6 + j, none⟩ = false) := fun j hj => ⟨(Blk.some_ hBd) _ (by rw [hcs]; omega), hBd.frozen _⟩
  obtain ⟨cur1, hB1, ht1, hs1⟩ := Blk.setCells news (0 + k * 6) w.drew cur hBd (by rw [hnl, hcs]; omega)
  obtain ⟨W1, hW1⟩ : ∃ W1, w.drew.setCells g (0 + k * 6) news = W1 := ⟨_, rfl⟩
  have HW1 := Lib.hid hW1
  rw [hW1] at hB1
  obtain ⟨cur2, hB2, ht2, hs2⟩ := Blk.setCells zeros6 ((n - 1) * 6) W1 cur1 hB1 (by rw [hs1, hcs]; simp [zeros6]; omega)
  have hcl2 : ∀ ty, (Builtin.clear_ #[23] ty #[.slice (some ⟨g, (n - 1) * 6, none⟩) 1 (cap - (n - 1))]).run Try.prog W1 = .ok (.tuple #[]) (W1.setCells g ((n - 1) * 6) zeros6) := fun ty =>
    run_clear_struct W1 _ 44 ty _ zeros6 Try.underlying23 ev_zero (by kernel_rfl) (by intro v hv; simp [zeros6] at hv; subst hv; rfl) g ((n - 1) * 6) _ (fun j hj => (Blk.some_ hB1) _ (by rw [hs1, hcs]; simp [zeros6] at hj; omega)) (fun j _ => hB1.frozen _)
  have FIN : DelPost w base g cap (n - 1) (xs.take (k * 6) ++ news) (.returned (.slice (some ⟨g, 0, none⟩) (n - 1) cap)) (W1.setCells g ((n - 1) * 6) zeros6) := by
    refine ⟨rfl, ⟨by rw [List.length_append, List.length_take, hxl, hnl]; omega, .inr ⟨g, cap, cur2, rfl, hbase, hB2, by omega, hm, by rw [hs2, hs1, hcs], ?_⟩⟩, ?_⟩
    · rw [ht2, ht1, List.append_assoc, List.take_append_of_le_length (by simp; omega), List.take_take, Nat.min_self, Nat.zero_add]
      have e4 : cur.toList.take (k * 6) = xs.take (k * 6) := by rw [← htk, List.take_take, Nat.min_eq_left (by omega)]
      rw [e4]
      exact List.take_left' (by rw [List.length_append, List.length_take, hxl, hnl]; omega)
    · rw [← hW1]
      exact below_setCells' (Nat.le_refl _) _ _ _ (below_setCells' (Nat.le_refl _) _ _ _ (Below.refl _ _).drew)
  have FH := Lib.hid FIN
  rw [hnews]
  generalize DelPost w base g cap (n - 1) (xs.take (k * 6) ++ news) = POST at *
  clear FIN hB hBd hB1 hB2 ht1 ht2 hs1 hs2 hcs htk hh hnews hnl hcl hW1 hx hxl
  have hkI : (k : Int) < (n : Int) := by omega
  have hkI2 : (k : Int) + 1 ≤ (n : Int) := by omega
  have hcI : (n : Int) ≤ (cap : Int) := by omega
  have i1 : IntKind.i64.wrap ((k : Int) + 1) = (k : Int) + 1 := IntWalk.i64_in _ (by omega)
  have hkn : k + (n - (k + 1)) = n - 1 := by omega
  have hn1 : n - (n - 1) = 1 := by omega
  have hkc : (k : Int) ≤ (cap : Int) := by omega
  have hkc1 : (k : Int) ≤ (k : Int) + 1 := by omega
  have hkc2 : (k : Int) + 1 ≤ (cap : Int) := by omega
  have hkN : k ≤ cap := by omega
  have hk0 : (0 : Int) ≤ (k : Int) + 1 := by omega
  have hkN1 : k + 1 ≤ n := by omega
  by_cases hck : cap = k + 1
  · subst hck
    obtain rfl : n = k + 1 := by omega
    have hsrc0 : Hid (∀ j u, news[j]? = some u → w.drew.cell? ((⟨g, 0, none⟩ : Addr).add j) = some u) := by
      intro j u hu
      have h0 : news.length = 0 := by rw [s1.out]; omega
      rw [List.length_eq_zero_iff.1 h0] at hu
      simp at hu
    have s0 : Hid (news.length = 0 * 6) := by rw [Nat.zero_mul]; have := s1.out; rw [Nat.sub_self, Nat.zero_mul] at this; exact this
    simp only [Nat.add_sub_cancel, Nat.add_sub_cancel_left] at hcl2 FH
    clear hkn hn1
    go_enter Try.func37, Try.ntmps37
    go_wp2_with fail
    go_region_law (refine step_append_room rfl (.tmp 22) (.tmp 25) 23 rfl 44 i0 6 Try.underlying23 hi0 hz1 g 0 k (k + 1) (by simp [Act.eval, Act.put]) ⟨g, 0, none⟩ 0 0 news (by simp [Act.eval, Act.put]) s0.out hsrc0.out s2.out (by omega) s3.out ?_; rw [HW1.out])
    all_goals
      go_wp2_with fail
      exact FH.out
  · have hck2 : ¬ cap ≤ k + 1 := by omega
    go_enter Try.func37, Try.ntmps37
    go_wp2_with fail
    go_region_law (refine step_append_room rfl (.tmp 22) (.tmp 25) 23 rfl 44 i0 6 Try.underlying23 hi0 hz1 g 0 k cap (by simp [Act.eval, Act.put]) ⟨g, (k + 1) * 6, none⟩ (n - (k + 1)) (cap - (k + 1)) news (by simp [Act.eval, Act.put]) s1.out hsrc.out s2.out (by omega) s3.out ?_; rw [HW1.out])
    all_goals
      go_wp2_with fail
      exact FH.out

theorem evRow_del (p : Int) (ws : List (Int × Int)) (k : Nat) (hk : k < ws.length) : evRow p (ws.take k ++ ws.drop (k + 1)) = (evRow p ws).take (k * 6) ++ (evRow p ws).drop ((k + 1) * 6) := by
  have e1 : ∀ a b : List (Int × Int), evRow p (a ++ b) = evRow p a ++ evRow p b := fun a b => by unfold evRow; rw [List.map_append, rowCells_append]
  have h1 : (evRow p ws).take (k * 6) = evRow p (ws.take k) := by
    have h2 : (evRow p (ws.take k)).length = k * 6 := by rw [evRow_len, List.length_take]; congr 1; omega
    conv => lhs; rw [← List.take_append_drop k ws, e1, ← h2]
    rw [List.take_left]
  have h3 : (evRow p ws).drop ((k + 1) * 6) = evRow p (ws.drop (k + 1)) := by
    have h2 : (evRow p (ws.take (k + 1))).length = (k + 1) * 6 := by rw [evRow_len, List.length_take]; congr 1; omega
    conv => lhs; rw [← List.take_append_drop (k + 1) ws, e1, ← h2]
    rw [List.drop_left]
  rw [e1, h1, h3]

def DonePost (w : World) (p nx : Int) (n : Nat) (xs : List Value) (f : Nat → Int) (e : Ending) (w' : World) : Prop :=
  ∃ v, e = .returned (.tuple #[.agg (cliCells p nx v f), .int .i64 0]) ∧ w'.ownsRow w.heap.size 44 6 v n xs ∧ Below w.heap.size w w'

set_option maxRecDepth 100000 in
set_option maxHeartbeats 2000000 in
theorem cdone_ok (p nx : Int) (A : Option Addr) (n c B : Nat) (ws : List (Int × Int)) (f : Nat → Int) (id : Int) (k : Nat) (w : World) (h : ClOk p nx ws f) (hl : ws.length = n) (hn : n ≤ 100) (hnc : n ≤ c) (hr : Reads w B 6 A n (evRow p ws)) (hB : B ≤ w.heap.size)
    (hk : k < n) (hid : (ws.getD k (0, 0)).1 = id) (hno : ∀ t, t < k → (ws.getD t (0, 0)).1 ≠ id) :
    Calls Try.prog 14 #[.agg (cliCells p nx (.slice A n c) f), .int .i64 id] w (DonePost w p nx (n - 1) (evRow p (ws.take k ++ ws.drop (k + 1))) f) := by
  have CC := Lib.hid (fun W hr hb => ccheck_ok p nx A n c B ws f W h hl hn hr hb)
  have CI := Lib.hid (fun gb W hr hb hc => index_ev p A n c B ws id k gb W hl hn hr hb hc (.inl ⟨k, by omega, rfl, hid, hno⟩))
  have CO := Lib.hid (fun W hr hb => own_ok p nx A n c B (evRow p ws) f W hr (evRow_one p ws) hnc (by omega) hb)
  have CD := Lib.hid (fun base g cp W ho => delete_ev base g cp n k (evRow p ws) W ho (evRow_one p ws) hk hn)
  rw [evRow_del p ws k (by omega)]
  have HP := Lib.hid (show ∀ v w', w'.ownsRow w.heap.size 44 6 v (n - 1) ((evRow p ws).take (k * 6) ++ (evRow p ws).drop ((k + 1) * 6)) → Below w.heap.size w w' → DonePost w p nx (n - 1) ((evRow p ws).take (k * 6) ++ (evRow p ws).drop ((k + 1) * 6)) f (.returned (.tuple #[.agg (cliCells p nx v f), .int .i64 0])) w' from fun v w' h1 h2 => ⟨v, rfl, h1, h2⟩)
  generalize DonePost w p nx (n - 1) ((evRow p ws).take (k * 6) ++ (evRow p ws).drop ((k + 1) * 6)) f = POST at *
  obtain ⟨E, D, F, bel⟩ := blk3' w 26 3 26 (cliCells p nx (.slice A n c) f) #[.int .i64 id] (cliCells 0 0 (.slice none 0 0) (fun _ => 0))
  have hr2 := ((hr.alloc hB (.cells (cliCells p nx (.slice A n c) f) 26)).alloc (by simp; omega) (.cells #[.int .i64 id] 3)).alloc (by simp; omega) (.cells (cliCells 0 0 (.slice none 0 0) (fun _ => 0)) 26)
  clear h hid hno hr hl
  unfold cliCells at *
  go_enter Try.func14, Try.ntmps14
  go_wp2_with fail
  refine (CC.out _ hr2 (by simp; omega)).mono ?_
  rintro e w1 ⟨rfl, b1⟩
  have E1 := E.below b1 E.lt
  have D1 := D.below b1 D.lt
  have F1 := F.below b1 F.lt
  have bel1 := bel.trans (b1.mono (by simp; omega))
  have hr3 := hr2.below (b1.mono (by simp; omega))
  have hq1 := bel1.size
  clear CC E D F bel b1 hr2
  have x0 := E1.cell 0
  have x1 := E1.cell 1
  have x2 := E1.cell 2
  have x3 := E1.cell 3
  have x4 := E1.cell 4
  have x5 := E1.cell 5
  have x6 := E1.cell 6
  go_wp2_with fail
  refine (CI.out _ _ hr3 (by omega) (D1.cell 0)).mono ?_
  rintro e w2 ⟨rfl, b2⟩
  have E2 := E1.below b2 E1.lt
  have F2 := F1.below b2 F1.lt
  have bel2 := bel1.trans (b2.mono hq1)
  have hr4 := hr3.below (b2.mono (by omega))
  have hq2 := bel2.size
  clear CI E1 D1 F1 bel1 b2 hr3 hq1 x0 x1 x2 x3 x4 x5 x6
  have x0 := E2.cell 0
  have x1 := E2.cell 1
  have x2 := E2.cell 2
  have x3 := E2.cell 3
  have x4 := E2.cell 4
  have x5 := E2.cell 5
  have x6 := E2.cell 6
  have hk0 : ¬ (k : Int) < 0 := by omega
  have i1 : IntKind.i64.wrap ((k : Int) + 1) = (k : Int) + 1 := IntWalk.i64_in _ (by omega)
  go_wp2_with fail
  refine (CO.out _ hr4 (by omega)).mono ?_
  rintro e w3 ⟨v, rfl, o3, b3⟩
  obtain ⟨g, cp, rfl, hcp, hcp2, hgb, hgl⟩ := own_head o3 (by omega)
  have E3 := E2.below b3 E2.lt
  have F3 := F2.below b3 F2.lt
  have bel3 := bel2.trans (b3.mono hq2)
  have o4 := own_base (base' := w.heap.size) o3 hq2
  have hFg : w.heap.size + 1 + 1 < g := by have := F2.lt; omega
  clear CO E2 F2 bel2 b3 hr4 x0 x1 x2 x3 x4 x5 x6 o3
  have n1 := own_blk_ne o4 E3 (by decide)
  have x0 := E3.cell 0
  have x1 := E3.cell 1
  have x2 := E3.cell 2
  have x3 := E3.cell 3
  have x4 := E3.cell 4
  have x5 := E3.cell 5
  have x6 := E3.cell 6
  have xf := E3.frozen
  have zE := E3.lt
  have E4 := putFrom_blk E3 [.int .i64 p, .int .i64 nx, .slice (some ⟨g, 0, none⟩) n cp, .int .i64 (f 0), .int .i64 (f 1), .int .i64 (f 2), .int .i64 (f 3)] rfl
  have F4 := putFrom_far (g := w.heap.size) (show w.heap.size + 1 + 1 ≠ w.heap.size by omega) [.int .i64 p, .int .i64 nx, .slice (some ⟨g, 0, none⟩) n cp, .int .i64 (f 0), .int .i64 (f 1), .int .i64 (f 2), .int .i64 (f 3)] 0 _ F3
  have o5 := putFrom_own (g := w.heap.size) n1 [.int .i64 p, .int .i64 nx, .slice (some ⟨g, 0, none⟩) n cp, .int .i64 (f 0), .int .i64 (f 1), .int .i64 (f 2), .int .i64 (f 3)] 0 _ o4
  have bel4 := putFrom_below (g := w.heap.size) (Nat.le_refl w.heap.size) [.int .i64 p, .int .i64 nx, .slice (some ⟨g, 0, none⟩) n cp, .int .i64 (f 0), .int .i64 (f 1), .int .i64 (f 2), .int .i64 (f 3)] 0 _ bel3
  unfold cliCells
  go_wp2_with fail
  rw [put7_eq]
  generalize putFrom w3 w.heap.size 0 [.int .i64 p, .int .i64 nx, .slice (some ⟨g, 0, none⟩) n cp, .int .i64 (f 0), .int .i64 (f 1), .int .i64 (f 2), .int .i64 (f 3)] = w4 at *
  clear x0 x1 x2 x3 x4 x5 x6 xf zE E3 F3 bel3 o4 n1
  refine (CD.out w.heap.size g cp w4 o5).mono ?_
  rintro e w5 ⟨rfl, o6, b6⟩
  have E5 := E4.below b6 (by omega)
  have F5 := F4.below b6 (by omega)
  have bel5 := bel4.trans (b6.mono (by omega))
  clear CD E4 F4 bel4 b6 o5
  have n1 := own_blk_ne o6 E5 (by decide)
  have n2 := own_blk_ne o6 F5 (by decide)
  have E6 : Blk (w5.setCell ⟨w.heap.size, 2, none⟩ (.slice (some ⟨g, 0, none⟩) (n - 1) cp)) w.heap.size 26 #[.int .i64 p, .int .i64 nx, .slice (some ⟨g, 0, none⟩) (n - 1) cp, .int .i64 (f 0), .int .i64 (f 1), .int .i64 (f 2), .int .i64 (f 3)] := E5.set_ 2 (.slice (some ⟨g, 0, none⟩) (n - 1) cp)
  have F6 := F5.far (p := ⟨w.heap.size, 2, none⟩) (by simp; omega) (.slice (some ⟨g, 0, none⟩) (n - 1) cp)
  have o7 := ownsRow_setCell_other (a := ⟨w.heap.size, 2, none⟩) o6 n1 (.slice (some ⟨g, 0, none⟩) (n - 1) cp)
  have bel6 := bel5.setCell (p := ⟨w.heap.size, 2, none⟩) (Nat.le_refl _) (.slice (some ⟨g, 0, none⟩) (n - 1) cp)
  have x2 : w5.cell? ⟨w.heap.size, 2, none⟩ = some (.slice (some ⟨g, 0, none⟩) n cp) := E5.cell 2
  have xf := E5.frozen
  have x0 := E5.cell 0
  have x1 := E5.cell 1
  have x3 := E5.cell 3
  have x4 := E5.cell 4
  have x5 := E5.cell 5
  have x6 := E5.cell 6
  have y0 := F5.cell 0
  have y1 := F5.cell 1
  have y2 := F5.cell 2
  have y3 := F5.cell 3
  have y4 := F5.cell 4
  have y5 := F5.cell 5
  have y6 := F5.cell 6
  have yf := F5.frozen
  have hfin := HP.out _ _ (putFrom_own (g := w.heap.size + 1 + 1) n2 [.int .i64 p, .int .i64 nx, .slice (some ⟨g, 0, none⟩) (n - 1) cp, .int .i64 (f 0), .int .i64 (f 1), .int .i64 (f 2), .int .i64 (f 3)] 0 _ o7) (putFrom_below (g := w.heap.size + 1 + 1) (by omega) [.int .i64 p, .int .i64 nx, .slice (some ⟨g, 0, none⟩) (n - 1) cp, .int .i64 (f 0), .int .i64 (f 1), .int .i64 (f 2), .int .i64 (f 3)] 0 _ bel6)
  clear E6 F6 E5 F5 o6 o7 bel5 bel6 n1 n2 HP
  go_wp2_with fail
  exact bodyPost_ret (v := .tuple #[.agg #[.int .i64 p, .int .i64 nx, .slice (some ⟨g, 0, none⟩) (n - 1) cp, .int .i64 (f 0), .int .i64 (f 1), .int .i64 (f 2), .int .i64 (f 3)], .int .i64 0]) (by simp [results, Try.results14, go_sem, *]) rfl (by rw [put7_eq]; exact hfin)

set_option maxRecDepth 100000 in
set_option maxHeartbeats 1000000 in
theorem cdone_none (p nx : Int) (A : Option Addr) (n c B : Nat) (ws : List (Int × Int)) (f : Nat → Int) (id : Int) (w : World) (h : ClOk p nx ws f) (hl : ws.length = n) (hn : n ≤ 100) (hr : Reads w B 6 A n (evRow p ws)) (hB : B ≤ w.heap.size)
    (hno : ∀ t, t < n → (ws.getD t (0, 0)).1 ≠ id) :
    Calls Try.prog 14 #[.agg (cliCells p nx (.slice A n c) f), .int .i64 id] w (Puts2 w (.agg (cliCells 0 0 (.slice none 0 0) (fun _ => 0))) (.int .i64 7)) := by
  have CC := Lib.hid (fun W hr hb => ccheck_ok p nx A n c B ws f W h hl hn hr hb)
  have CI := Lib.hid (fun gb W hr hb hc => index_ev p A n c B ws id (-1) gb W hl hn hr hb hc (.inr ⟨rfl, by rw [hl]; exact hno⟩))
  have HP := Lib.hid (show ∀ w', Below w.heap.size w w' → Puts2 w (.agg (cliCells 0 0 (.slice none 0 0) (fun _ => 0))) (.int .i64 7) (.returned (.tuple #[.agg (cliCells 0 0 (.slice none 0 0) (fun _ => 0)), .int .i64 7])) w' from fun w' h => ⟨rfl, h⟩)
  generalize Puts2 w (.agg (cliCells 0 0 (.slice none 0 0) (fun _ => 0))) (.int .i64 7) = POST at *
  obtain ⟨E, D, F, bel⟩ := blk3' w 26 3 26 (cliCells p nx (.slice A n c) f) #[.int .i64 id] (cliCells 0 0 (.slice none 0 0) (fun _ => 0))
  have hr2 := ((hr.alloc hB (.cells (cliCells p nx (.slice A n c) f) 26)).alloc (by simp; omega) (.cells #[.int .i64 id] 3)).alloc (by simp; omega) (.cells (cliCells 0 0 (.slice none 0 0) (fun _ => 0)) 26)
  clear h hno hr hl
  unfold cliCells at *
  go_enter Try.func14, Try.ntmps14
  go_wp2_with fail
  refine (CC.out _ hr2 (by simp; omega)).mono ?_
  rintro e w1 ⟨rfl, b1⟩
  have E1 := E.below b1 E.lt
  have D1 := D.below b1 D.lt
  have F1 := F.below b1 F.lt
  have bel1 := bel.trans (b1.mono (by simp; omega))
  have hr3 := hr2.below (b1.mono (by simp; omega))
  have hq1 := bel1.size
  clear CC E D F bel b1 hr2
  have x2 := E1.cell 2
  go_wp2_with fail
  refine (CI.out _ _ hr3 (by omega) (D1.cell 0)).mono ?_
  rintro e w2 ⟨rfl, b2⟩
  have F2 := F1.below b2 F1.lt
  have hbel := bel1.trans (b2.mono hq1)
  clear CI E1 D1 F1 bel1 b2 hr3 hq1 x2
  have y0 := F2.cell 0
  have y1 := F2.cell 1
  have y2 := F2.cell 2
  have y3 := F2.cell 3
  have y4 := F2.cell 4
  have y5 := F2.cell 5
  have y6 := F2.cell 6
  have yf := F2.frozen
  go_wp2_with fail
  exact bodyPost_ret (v := .tuple #[.agg #[.int .i64 0, .int .i64 0, .slice none 0 0, .int .i64 0, .int .i64 0, .int .i64 0, .int .i64 0], .int .i64 7]) (by simp [results, Try.results14, go_sem, *]) rfl (HP.out _ (by (repeat' (first | with_reducible exact hbel | with_reducible refine Below.setCell ?_ ?_ _)) <;> (simp <;> omega)))

end Go.Proofs.Ytjmncbfmjeeneaa.Cl

namespace Go.Proofs.Ytjmncbfmjeeneaa
open Go.RowKit

set_option linter.unusedVariables false
def wEv (p : Int) (ws : List (Int × Int)) : List Ev := ws.map fun x => ⟨1, p, x.1, x.2, 0, 0⟩
theorem wEv_cells (p : Int) (ws : List (Int × Int)) : qevCells (wEv p ws) = Cl.evRow p ws := by
  unfold qevCells wEv Cl.evRow
  rw [List.map_map]
  rfl
theorem wEv_len (p : Int) (ws : List (Int × Int)) : (wEv p ws).length = ws.length := by simp [wEv]
theorem wEv_get (p : Int) (ws : List (Int × Int)) (k : Nat) (hk : k < ws.length) : (wEv p ws).getD k .zero0 = ⟨1, p, (ws.getD k (0, 0)).1, (ws.getD k (0, 0)).2, 0, 0⟩ := by
  simp [wEv, List.getD, List.getElem?_eq_getElem hk]
theorem St.wReads {w0 w : World} {I : List It} {A : Option Addr} {p : Int} {ws : List (Int × Int)} {n : Nat} (H : St w0 w I) [h : Has I (evIt A (wEv p ws))] (hl : ws.length = n) : Reads w w.heap.size 6 A n (Cl.evRow p ws) := by
  subst hl
  have h2 : Reads w w.heap.size 6 A (wEv p ws).length (qevCells (wEv p ws)) := H.get (evIt A (wEv p ws))
  rw [wEv_cells, wEv_len] at h2
  exact h2
def cl7 (p nx : Int) (A : Option Addr) (n c : Nat) : Array Value := #[.int .i64 p, .int .i64 nx, .slice A n c, .int .i64 (-1), .int .i64 (-1), .int .i64 (-1), .int .i64 (-1)]
theorem cnew_st {w0 w : World} {I : List It} (H : St w0 w I) : Calls Try.prog 9 #[.int .i64 1] w (fun ed w' => ed = .returned (.tuple #[.agg (cl7 1 0 none 0 0), .int .i64 0]) ∧ St w0 w' I) :=
  (Cl.cnew_ok 1 w (by omega) (by omega)).mono fun ed w' h => ⟨h.1, H.below h.2⟩
theorem ccheck_st {w0 w : World} {I : List It} (nx : Int) (A : Option Addr) (n c : Nat) (ws : List (Int × Int)) (h : Cl.ClOk 1 nx ws (fun _ => -1)) (hl : ws.length = n) (hn : n ≤ 100) (H : St w0 w I) [hI : Has I (evIt A (wEv 1 ws))] :
    Calls Try.prog 15 #[.agg (cl7 1 nx A n c)] w (fun ed w' => ed = .returned (.int .i64 0) ∧ St w0 w' I) :=
  (Cl.ccheck_ok 1 nx A n c w.heap.size ws (fun _ => -1) w h hl hn (H.wReads hl) (Nat.le_refl _)).mono fun ed w' h => ⟨h.1, H.below h.2⟩
theorem csend_st {w0 w : World} {I : List It} (nx body : Int) (A : Option Addr) (n c : Nat) (ws : List (Int × Int)) (h : Cl.ClOk 1 nx ws (fun _ => -1)) (hl : ws.length = n) (hn : n ≤ 100) (hnc : n ≤ c) (hnx : nx < 1073741824) (hfirst : n = 0 ∨ nx - (ws.getD 0 (0, 0)).1 < 8) (hb0 : 0 ≤ body) (hb1 : body ≤ 1000000) (H : St w0 w I) [hI : Has I (evIt A (wEv 1 ws))] :
    Calls Try.prog 11 #[.agg (cl7 1 nx A n c), .int .i64 body] w (fun ed w' => ∃ A' c', ed = .returned (.tuple #[.agg (cl7 1 (nx + 1) A' (n + 1) c'), .agg #[.int .i64 1, .int .i64 1, .int .i64 nx, .int .i64 body, .int .i64 0, .int .i64 0], .int .i64 0]) ∧ n + 1 ≤ c' ∧ St w0 w' (evIt A' (wEv 1 (ws ++ [(nx, body)])) :: I)) := by
  refine (Cl.csend_ok 1 nx body A n c w.heap.size ws (fun _ => -1) w h hl hn hnc (H.wReads hl) (Nat.le_refl _) hnx hfirst hb0 hb1).mono ?_
  rintro ed w' ⟨v, rfl, ho, hb⟩
  have H2 := H.newOwn hb ho
  obtain ⟨A', c', rfl, hc1, hc2⟩ := own_shape ho
  rw [← wEv_cells] at H2
  exact ⟨A', c', rfl, hc1, St.freezeEv H2 (by rw [wEv_len, List.length_append, hl]; rfl)⟩
theorem cfull_st {w0 w : World} {I : List It} (nx body : Int) (A : Option Addr) (n c : Nat) (ws : List (Int × Int)) (h : Cl.ClOk 1 nx ws (fun _ => -1)) (hl : ws.length = n) (hn : n ≤ 100) (hnx : nx < 1073741824) (hn1 : 0 < n) (hfirst : 8 ≤ nx - (ws.getD 0 (0, 0)).1) (hb0 : 0 ≤ body) (hb1 : body ≤ 1000000) (H : St w0 w I) [hI : Has I (evIt A (wEv 1 ws))] :
    Calls Try.prog 11 #[.agg (cl7 1 nx A n c), .int .i64 body] w (fun ed w' => ed = .returned (.tuple #[.agg #[.int .i64 0, .int .i64 0, .slice none 0 0, .int .i64 0, .int .i64 0, .int .i64 0, .int .i64 0], .agg #[.int .i64 0, .int .i64 0, .int .i64 0, .int .i64 0, .int .i64 0, .int .i64 0], .int .i64 14]) ∧ St w0 w' I) :=
  (Cl.csend_full 1 nx body A n c w.heap.size ws (fun _ => -1) w h hl hn (H.wReads hl) (Nat.le_refl _) hnx hn1 hfirst hb0 hb1).mono fun ed w' h => ⟨h.1, H.below h.2⟩
theorem cdone_st {w0 w : World} {I : List It} (nx : Int) (A : Option Addr) (n c : Nat) (ws : List (Int × Int)) (id : Int) (k : Nat) (h : Cl.ClOk 1 nx ws (fun _ => -1)) (hl : ws.length = n) (hn : n ≤ 100) (hnc : n ≤ c) (hk : k < n) (hid : (ws.getD k (0, 0)).1 = id) (hno : ∀ t, t < k → (ws.getD t (0, 0)).1 ≠ id) (H : St w0 w I) [hI : Has I (evIt A (wEv 1 ws))] :
    Calls Try.prog 14 #[.agg (cl7 1 nx A n c), .int .i64 id] w (fun ed w' => ∃ A' c', ed = .returned (.tuple #[.agg (cl7 1 nx A' (n - 1) c'), .int .i64 0]) ∧ n - 1 ≤ c' ∧ St w0 w' (evIt A' (wEv 1 (ws.take k ++ ws.drop (k + 1))) :: I)) := by
  refine (Cl.cdone_ok 1 nx A n c w.heap.size ws (fun _ => -1) id k w h hl hn hnc (H.wReads hl) (Nat.le_refl _) hk hid hno).mono ?_
  rintro ed w' ⟨v, rfl, ho, hb⟩
  have H2 := H.newOwn hb ho
  obtain ⟨A', c', rfl, hc1, hc2⟩ := own_shape ho
  rw [← wEv_cells] at H2
  exact ⟨A', c', rfl, hc1, St.freezeEv H2 (by rw [wEv_len, List.length_append, List.length_take, List.length_drop]; omega)⟩
theorem seen_st {w0 w : World} {I : List It} (top : Int) (S : Int → Bool) (id : Int) (h : WOk top S) (h1 : 0 ≤ id) (h2 : id ≤ 1073741824) (hl : top - 8 ≤ id) (H : St w0 w I) :
    Calls Try.prog 13 #[.agg (winCells top (shows top S)), .int .i64 id] w (fun ed w' => ed = .returned (.tuple #[.bool (S id), .int .i64 0]) ∧ St w0 w' I) :=
  (wseen_in top S id w h h1 h2 hl).mono fun ed w' h => ⟨h.1, H.below h.2⟩

/-! ### what ClientSafe keeps -/
theorem clok_new1 : Cl.ClOk 1 0 [] (fun _ => -1) := ⟨by omega, by omega, by omega, by omega, fun j hj => absurd hj (by simp), fun j hj => by omega⟩
theorem clok_far {p nx : Int} {ws : List (Int × Int)} {f : Nat → Int} (h : Cl.ClOk p nx ws f) : ∀ k, k < ws.length → nx - 8 + k ≤ (ws.getD k (0, 0)).1
  | 0, hk => by have := (h.ids 0 hk).2.2.1; omega
  | k + 1, hk => by
    have ih := clok_far h k (by omega)
    have h2 := (h.ids (k + 1) hk).2.2.2.2.2
    unfold Cl.lastOf at h2
    rw [if_neg (by omega), Nat.add_sub_cancel] at h2
    omega
theorem clok_len {p nx : Int} {ws : List (Int × Int)} {f : Nat → Int} (h : Cl.ClOk p nx ws f) : ws.length ≤ 8 := by
  rcases Nat.lt_or_ge 8 ws.length with h1 | h1
  · have h2 := clok_far h (ws.length - 1) (by omega)
    have h3 := (h.ids (ws.length - 1) (by omega)).2.1
    omega
  · exact h1
theorem clok_incr {p nx : Int} {ws : List (Int × Int)} {f : Nat → Int} (h : Cl.ClOk p nx ws f) (j : Nat) : ∀ k, j < k → k < ws.length → (ws.getD j (0, 0)).1 < (ws.getD k (0, 0)).1
  | 0, hj, hk => by omega
  | k + 1, hj, hk => by
    have h2 := (h.ids (k + 1) hk).2.2.2.2.2
    unfold Cl.lastOf at h2
    rw [if_neg (by omega), Nat.add_sub_cancel] at h2
    by_cases hjk : j = k
    · rw [hjk]; exact h2
    · have := clok_incr h j k (by omega) (by omega)
      omega
theorem getD_leftW (ws : List (Int × Int)) (x : Int × Int) (k : Nat) (hk : k < ws.length) : (ws ++ [x]).getD k (0, 0) = ws.getD k (0, 0) := by simp [List.getD, List.getElem?_append_left hk]
theorem clok_send {p nx : Int} {ws : List (Int × Int)} {f : Nat → Int} (h : Cl.ClOk p nx ws f) (body : Int) (hnx : nx < 1073741824) (hf : ws.length = 0 ∨ nx - (ws.getD 0 (0, 0)).1 < 8) (h0 : 0 ≤ body) (h1 : body ≤ 1000000) : Cl.ClOk p (nx + 1) (ws ++ [(nx, body)]) f := by
  have hn0 := h.n0
  refine ⟨h.p0, h.p3, by omega, by omega, fun k hk => ?_, h.wh⟩
  rw [List.length_append] at hk
  have hk' : k < ws.length + 1 := hk
  have hlast : Cl.lastOf (ws ++ [(nx, body)]) k = Cl.lastOf ws k := by
    unfold Cl.lastOf
    split
    · rfl
    · rw [getD_leftW ws _ (k - 1) (by omega)]
  rw [hlast]
  by_cases hkl : k < ws.length
  · rw [getD_leftW ws _ k hkl]
    obtain ⟨a, b, c, d, e, g⟩ := h.ids k hkl
    refine ⟨a, by omega, ?_, d, e, g⟩
    by_cases hk0 : k = 0
    · subst hk0; omega
    · have := clok_incr h 0 k (by omega) hkl; omega
  · obtain rfl : k = ws.length := by omega
    have hg : (ws ++ [(nx, body)]).getD ws.length (0, 0) = (nx, body) := by simp [List.getD]
    rw [hg]
    refine ⟨by dsimp only; omega, by dsimp only; omega, by dsimp only; omega, by dsimp only; omega, by dsimp only; omega, ?_⟩
    unfold Cl.lastOf
    split
    · dsimp only; omega
    · exact (h.ids (ws.length - 1) (by omega)).2.1
theorem del_get (ws : List (Int × Int)) (k t : Nat) (hk : k < ws.length) : (ws.take k ++ ws.drop (k + 1)).getD t (0, 0) = if t < k then ws.getD t (0, 0) else ws.getD (t + 1) (0, 0) := by
  simp only [List.getD]
  split
  · rw [List.getElem?_append_left (by simp; omega), List.getElem?_take, if_pos (by assumption)]
  · rw [List.getElem?_append_right (by simp; omega), List.getElem?_drop]
    congr 2
    rw [List.length_take]
    omega
theorem clok_del {p nx : Int} {ws : List (Int × Int)} {f : Nat → Int} (h : Cl.ClOk p nx ws f) (k : Nat) (hk : k < ws.length) : Cl.ClOk p nx (ws.take k ++ ws.drop (k + 1)) f := by
  refine ⟨h.p0, h.p3, h.n0, h.n1, fun j hj => ?_, h.wh⟩
  have hj' : j < ws.length - 1 := by simp at hj; omega
  rw [del_get ws k j hk]
  by_cases hjk : j < k
  · rw [if_pos hjk]
    obtain ⟨a, b, c, d, e, g⟩ := h.ids j (by omega)
    refine ⟨a, b, c, d, e, ?_⟩
    unfold Cl.lastOf at g ⊢
    split
    · rw [if_pos (by assumption)] at g; exact g
    · rw [if_neg (by assumption)] at g
      rw [del_get ws k (j - 1) hk, if_pos (by omega)]
      exact g
  · rw [if_neg hjk]
    obtain ⟨a, b, c, d, e, g⟩ := h.ids (j + 1) (by omega)
    refine ⟨a, b, c, d, e, ?_⟩
    obtain ⟨a', _, _, _, _, g'⟩ := h.ids j (by omega)
    have e1 : Cl.lastOf ws (j + 1) = (ws.getD j (0, 0)).1 := by simp [Cl.lastOf]
    unfold Cl.lastOf
    split
    · omega
    · rw [del_get ws k (j - 1) hk]
      split
      · rename_i h1 h2
        unfold Cl.lastOf at g'
        rw [if_neg h1] at g'
        omega
      · rename_i h1 h2
        rw [show j - 1 + 1 = j by omega]
        omega
/-- how many ids below n were taken -/
def took (S : Int → Bool) (n : Nat) : Nat := ((List.range n).countP fun (k : Nat) => S (k : Int))
theorem took_le (S : Int → Bool) (n : Nat) : took S n ≤ n := by
  unfold took
  have := List.countP_le_length (p := fun (k : Nat) => S (k : Int)) (l := List.range n)
  simpa using this
theorem took_succ (S : Int → Bool) (n : Nat) : took S (n + 1) = took S n + (if S (n : Int) then 1 else 0) := by
  unfold took
  rw [List.range_succ, List.countP_append]
  simp [List.countP_cons]
theorem took_add (S : Int → Bool) (id : Nat) (hS : S (id : Int) = false) : ∀ n : Nat, took (fun x => S x || x == (id : Int)) n = took S n + (if id < n then 1 else 0)
  | 0 => by simp [took]
  | n + 1 => by
    rw [took_succ, took_succ, took_add S id hS n]
    by_cases h : id = n
    · subst h
      simp [hS]
    · have h2 : ((n : Int) == (id : Int)) = false := by simp; omega
      simp only [h2, Bool.or_false]
      generalize (if S (n : Int) = true then 1 else 0) = z
      by_cases h3 : id < n
      · rw [if_pos h3, if_pos (show id < n + 1 by omega)]
        omega
      · rw [if_neg h3, if_neg (show ¬ id < n + 1 by omega)]
        omega
/-- the client has sent so many; the queue has taken some of these -/
structure CS (i sent : Nat) (ws : List (Int × Int)) (q : QM) : Prop where
  i80 : i ≤ 80
  si : sent ≤ i
  ok : Cl.ClOk 1 sent ws (fun _ => -1)
  inv : q.Inv
  room : q.Room (81 - i)
  top : q.t 1 ≤ sent
  nx : q.nx = (took (q.S 1) sent : Nat)
theorem CS.start : CS 0 0 [] QM.zero := ⟨by omega, by omega, clok_new1, QM.zero_inv, QM.zero_room.less (by omega), by simp [QM.zero], by simp [QM.zero, took]⟩
theorem CS.next {i sent : Nat} {ws : List (Int × Int)} {q : QM} (h : CS i sent ws q) (hi : i < 80) : CS (i + 1) sent ws q := ⟨by omega, by have := h.si; omega, h.ok, h.inv, h.room.less (by omega), h.top, h.nx⟩
theorem CS.send {i sent : Nat} {ws : List (Int × Int)} {q : QM} (h : CS i sent ws q) (hi : i < 80) (body : Int) (hf : ws.length = 0 ∨ (sent : Int) - (ws.getD 0 (0, 0)).1 < 8) (h0 : 0 ≤ body) (h1 : body ≤ 1000000) : CS (i + 1) (sent + 1) (ws ++ [((sent : Int), body)]) q := by
  have hsi := h.si
  have htop := h.top
  refine ⟨by omega, by omega, ?_, h.inv, h.room.less (by omega), by omega, ?_⟩
  · exact clok_send h.ok body (by omega) hf h0 h1
  · rw [took_succ, h.nx]
    have h2 : q.S 1 (sent : Int) = false := by
      cases hs : q.S 1 (sent : Int) with
      | false => rfl
      | true => have := ((h.inv.win 1 (by omega)).in_ _ hs).2; omega
    rw [h2]
    simp
theorem CS.done {i sent : Nat} {ws : List (Int × Int)} {q : QM} (h : CS i sent ws q) (hi : i < 80) (k : Nat) (hk : k < ws.length) : CS (i + 1) sent (ws.take k ++ ws.drop (k + 1)) q :=
  ⟨by omega, by have := h.si; omega, clok_del h.ok k hk, h.inv, h.room.less (by omega), h.top, h.nx⟩
theorem CS.step {i sent : Nat} {ws : List (Int × Int)} {q : QM} (h : CS i sent ws q) (hi : i < 80) (k : Nat) (hk : k < ws.length) :
    ∃ q' b, q.step ⟨1, 1, (ws.getD k (0, 0)).1, (ws.getD k (0, 0)).2, 0, 0⟩ = (q', ⟨0, 0, 0, 0⟩, b) ∧ CS (i + 1) sent ws q' ∧ Ev.check ⟨1, 1, (ws.getD k (0, 0)).1, (ws.getD k (0, 0)).2, 0, 0⟩ = 0 ∧ q.Room 1 := by
  obtain ⟨a, b, c, d, e, g⟩ := h.ok.ids k hk
  have hsi := h.si
  have htop := h.top
  have hchk : Ev.check ⟨1, 1, (ws.getD k (0, 0)).1, (ws.getD k (0, 0)).2, 0, 0⟩ = 0 := Cl.cli_ev_ok (by omega) (by omega) a (by omega) d e
  have hroom : q.Room (80 - i + 1) := h.room.less (by omega)
  have hinv := h.inv.step (e := ⟨1, 1, (ws.getD k (0, 0)).1, (ws.getD k (0, 0)).2, 0, 0⟩) hchk
  have hroom2 := hroom.step ⟨1, 1, (ws.getD k (0, 0)).1, (ws.getD k (0, 0)).2, 0, 0⟩
  obtain ⟨id, hid⟩ : ∃ id : Nat, (ws.getD k (0, 0)).1 = (id : Int) := ⟨(ws.getD k (0, 0)).1.toNat, by omega⟩
  rw [hid] at a b c hchk hinv hroom2 ⊢
  generalize (ws.getD k (0, 0)).2 = body at *
  unfold QM.step at hinv hroom2 ⊢
  dsimp only at hinv hroom2 ⊢
  rw [if_pos rfl] at hinv hroom2 ⊢
  rw [show ((1 : Int)).toNat = 1 from rfl] at hinv hroom2 ⊢
  rw [if_neg (by omega)] at hinv hroom2 ⊢
  split
  · exact ⟨q, false, rfl, h.next hi, hchk, h.room.less (by omega)⟩
  · next hS =>
    have hS' : q.S 1 (id : Int) = false := by simpa using hS
    rw [if_neg hS] at hinv hroom2
    refine ⟨q.pub 1 id body, true, rfl, ⟨by omega, by omega, h.ok, hinv, hroom2.less (by omega), ?_, ?_⟩, hchk, h.room.less (by omega)⟩
    · simp only [QM.pub, setF, if_pos]
      omega
    · simp only [QM.pub, setF, if_pos]
      rw [took_add _ id hS', if_pos (by omega), h.nx]
      omega
theorem CS.end_ {i sent : Nat} {ws : List (Int × Int)} {q : QM} (h : CS i sent ws q) : q.nx ≤ sent ∧ ws.length ≤ 8 := by
  refine ⟨?_, clok_len h.ok⟩
  have := took_le (q.S 1) sent
  rw [h.nx]
  omega

end Go.Proofs.Ytjmncbfmjeeneaa
