/- 'take' and the deferred closure of 'pack.Decode'. -/
import Derived.Test.YtcgamaponeglhaaEnc
import Derived.Test.YtcgamaponeglhaaTake
import Derived.Deep.QuietTactic
import Derived.BigQuiet
import Derived.Defers
import Derived.Recover
import Derived.Laws.Pointers
import Derived.StillTailTactics
import Derived.BigRegion
namespace Go.Proofs.Ytcgamaponeglhaa
open Go.RowKit

/-- what is thrown -/
def badV (code : Int) : Value := .iface 69 (.agg #[.int .i64 code])

/-- the call throws a code, and nothing has turned -/
def Throws (code : Int) (w : World) (e : Ending) (w' : World) : Prop := e = .panicked [{ v := badV code, recovered := false }] ∧ w = w'

set_option maxHeartbeats 400000 in
theorem tk_short (A : Option Addr) (n c : Nat) (w : World) (hn : n < 4) : Calls Try.prog 31 #[.slice A n c] w (Throws 4 w) := by
  go_enter Try.func31, Try.ntmps31
  go_wp2_with fail
  refine (take_short A n c w hn).mono ?_
  rintro e w1 ⟨rfl, rfl⟩
  go_wp2
  exact ⟨rfl, rfl, rfl⟩

set_option maxHeartbeats 400000 in
theorem tk_range (A : Option Addr) (n c B : Nat) (zs : List Int) (w : World) (h : Reads w B 1 A n (zs.map (Value.int .u8))) (hn : 4 ≤ n) (hc : n ≤ c) (hz : ∀ z ∈ zs, 0 ≤ z ∧ z ≤ 255) (hv : ¬ valOf (zs.take 4) ≤ 2147483647) :
    Calls Try.prog 31 #[.slice A n c] w (Throws 2 w) := by
  have CT := Lib.hid (take_four A n c B zs w h hn hc hz)
  generalize valOf (zs.take 4) = v at *
  clear h hz
  go_enter Try.func31, Try.ntmps31
  go_wp2_with fail
  refine CT.out.mono ?_
  rintro e w1 ⟨rfl, rfl⟩
  rw [if_neg (by omega), if_neg (by omega)]
  go_wp2
  exact ⟨rfl, rfl, rfl⟩

/-- a number was taken, and the rest is handed on -/
def TookNum (w : World) (B n c : Nat) (v : Int) (zs : List Int) (e : Ending) (w' : World) : Prop :=
  ∃ A', e = .returned (.tuple #[.int .i64 v, .slice A' (n - 4) (c - 4)]) ∧ Reads w' B 1 A' (n - 4) ((zs.drop 4).map (Value.int .u8)) ∧ Below w.heap.size w w'

theorem below_drewN' {w : World} (n : Nat) : Below w.heap.size w (w.drewN n) := below_drewN (Below.refl _ _) n

set_option maxHeartbeats 400000 in
theorem tk_ok (A : Option Addr) (n c B : Nat) (zs : List Int) (w : World) (h : Reads w B 1 A n (zs.map (Value.int .u8))) (hn : 4 ≤ n) (hc : n ≤ c) (hc2 : c ≤ 9223372036854775807) (hz : ∀ z ∈ zs, 0 ≤ z ∧ z ≤ 255) (hv : valOf (zs.take 4) ≤ 2147483647) :
    Calls Try.prog 31 #[.slice A n c] w (TookNum w B n c (valOf (zs.take 4)) zs) := by
  have CT := Lib.hid (take_four A n c B zs w h hn hc hz)
  have hcut := Reads.cut (k := 4) h hn hc
  rw [Nat.mul_one, ← List.map_drop] at hcut
  obtain ⟨b, off, rfl, _, _⟩ := h.plain (by omega) (by omega)
  have FIN : ∀ q, TookNum w B n c (valOf (zs.take 4)) zs (.returned (.tuple #[.int .i64 (valOf (zs.take 4)), .slice (if c = 4 then some ⟨b, off, none⟩ else (some ⟨b, off, none⟩ : Option Addr).map (·.add 4)) (n - 4) (c - 4)])) (w.drewN q) :=
    fun q => ⟨_, rfl, hcut.drewN q, below_drewN' q⟩
  generalize valOf (zs.take 4) = v at *
  have FH := Lib.hid FIN
  clear FIN h hz hcut
  have hI : (4 : Int) ≤ (n : Int) := by omega
  have hcI : (n : Int) ≤ (c : Int) := by omega
  by_cases h4 : c = 4
  · obtain rfl : n = 4 := by omega
    have FH2 := FH.out
    simp only [if_pos h4] at FH2
    subst h4
    have FH := Lib.hid FH2
    clear FH2
    go_enter Try.func31, Try.ntmps31
    go_wp2_with fail
    refine CT.out.mono ?_
    rintro e w1 ⟨rfl, rfl⟩
    rw [if_pos hv, if_pos hv]
    go_wp2
    go_quiet (fail)
    go_wp2
    go_ret2
    exact FH.out _
  · have FH2 := FH.out
    simp only [if_neg h4] at FH2
    have FH := Lib.hid FH2
    clear FH2
    have h4' : ¬ c ≤ 4 := by omega
    go_enter Try.func31, Try.ntmps31
    go_wp2_with fail
    refine CT.out.mono ?_
    rintro e w1 ⟨rfl, rfl⟩
    rw [if_pos hv, if_pos hv]
    go_wp2
    go_quiet (fail)
    go_wp2
    go_ret2
    exact FH.out _

/-- behind a throw the result is nothing, and the code is told -/
def Caught (g : Nat) (code : Int) (w w' : World) : Prop := Blk w' g 29 (Rc.cells ⟨0, 0, 0, 0, Ev.zero⟩) ∧ Blk w' (g + 1) 32 #[.int .i64 code] ∧ Below g w w'

set_option maxHeartbeats 800000 in
theorem catch_throw (g : Nat) (code : Int) (r : Rc) (x : Int) (w : World) (E1 : Blk w g 29 r.cells) (E2 : Blk w (g + 1) 32 #[.int .i64 x]) :
    CallsD Try.prog 30 #[.pointer (some ⟨g, 0, none⟩), .pointer (some ⟨g + 1, 0, none⟩)] (.panicking [{ v := badV code, recovered := false }]) w fun e u' w' =>
      e = .returned (.tuple #[]) ∧ u' = .panicking [{ v := badV code, recovered := true }] ∧ Caught g code w w' := by
  obtain ⟨x0, x1, x2, x3, x4, x5, x6, x7, x8, x9⟩ := rcBlk E1
  have y0 := E2.cell 0
  have f1 := E1.frozen
  have f2 := E2.frozen
  refine callsD_of_wpS Try.func30 rfl fun c₀ cs hu => ?_
  apply wpS_seq
  apply wpS_region
  simp [wpOpsS, go_sem, recoverD, hu, Try.ntmps30, Exit.thenS, badV]
  refine wpS_of_wp ?_
  rw [show (#[.pointer (some ⟨g, 0, none⟩), .pointer (some ⟨g + 1, 0, none⟩)] ++ ((Array.replicate 8 undef).setIfInBounds 1 (.iface 69 (.agg #[.int .i64 code]))).setIfInBounds 0 (.iface 69 (.agg #[.int .i64 code])) : Array Value) =
    #[.pointer (some ⟨g, 0, none⟩), .pointer (some ⟨g + 1, 0, none⟩), .iface 69 (.agg #[.int .i64 code]), .iface 69 (.agg #[.int .i64 code]), undef, undef, undef, undef, undef, undef] from rfl]
  have hne : ∀ W, (binOp .neq 20 (.iface 69 (.agg #[.int .i64 code])) .nilIface).run Try.prog W = .ok (.bool true) W := fun W => by kernel_rfl
  have hta : ∀ W, (Instr.typeAssert (.iface 69 (.agg #[.int .i64 code])) 20 69 false).run Try.prog W = .ok (.agg #[.int .i64 code]) W := fun W => by kernel_rfl
  have hfd : ∀ W, (Instr.field 69 (.agg #[.int .i64 code]) 0).run Try.prog W = .ok (.int .i64 code) W := fun W => by kernel_rfl
  go_wp2
  go_region
  go_wp2
  rw [put10_eq]
  have D1 := putFrom_blk E1 [.int .i64 0, .int .i64 0, .int .i64 0, .int .i64 0, .int .i64 0, .int .i64 0, .int .i64 0, .int .i64 0, .int .i64 0, .int .i64 0] rfl
  have D2 := putFrom_far (g := g) (g' := g + 1) (by omega) [.int .i64 0, .int .i64 0, .int .i64 0, .int .i64 0, .int .i64 0, .int .i64 0, .int .i64 0, .int .i64 0, .int .i64 0, .int .i64 0] 0 w E2
  have D3 := putFrom_below (B := g) (g := g) (Nat.le_refl _) [.int .i64 0, .int .i64 0, .int .i64 0, .int .i64 0, .int .i64 0, .int .i64 0, .int .i64 0, .int .i64 0, .int .i64 0, .int .i64 0] 0 w (Below.refl _ _)
  generalize putFrom w g 0 _ = w2 at *
  have HC : Caught g code w (w2.setCell ⟨g + 1, 0, none⟩ (.int .i64 code)).drew := ⟨D1.far (by simp) _, D2.set_ 0 _, (D3.setCell (by simp) _).drew⟩
  have HH := Lib.hid HC
  clear HC D1 D2 D3 hne hta hfd E1 E2 x0 x1 x2 x3 x4 x5 x6 x7 x8 x9 y0 f1 f2
  simp [bodyPostS, results, Try.results30]
  exact HH.out

theorem catch_idle (p q : Addr) (w : World) :
    CallsD Try.prog 30 #[.pointer (some p), .pointer (some q)] .returning w fun e u' w' => e = .returned (.tuple #[]) ∧ u' = .returning ∧ w' = w := by
  refine callsD_of_wpS Try.func30 rfl fun c₀ cs hu => ?_
  apply wpS_seq
  apply wpS_region
  simp [wpOpsS, go_sem, recoverD, hu, Try.ntmps30, Exit.thenS]
  refine wpS_of_wp ?_
  rw [show (#[.pointer (some p), .pointer (some q)] ++ ((Array.replicate 8 undef).setIfInBounds 1 .nilIface).setIfInBounds 0 .nilIface : Array Value) = #[.pointer (some p), .pointer (some q), .nilIface, .nilIface, undef, undef, undef, undef, undef, undef] from rfl]
  have hne : ∀ W, (binOp .neq 20 .nilIface .nilIface).run Try.prog W = .ok (.bool false) W := fun W => by kernel_rfl
  go_wp2
  clear hne
  cases c₀
  simp_all [bodyPostS, results, Try.results30]

end Go.Proofs.Ytcgamaponeglhaa
