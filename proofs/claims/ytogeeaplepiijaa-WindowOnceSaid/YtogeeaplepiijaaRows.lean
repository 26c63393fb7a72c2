/-
  No cell of these rows narrows 'for every input' (looked for: loops, veiled, ifaces, maps, wideKeys, modest, calm, conditions, laid).
  DERIVED. THE GIVEN ROWS OF THIS SEAT. 9 by the template 'for every input the law returns true; each argument reads behind the call as it read before'; 0 by the template 'total and deterministic' (their statements: YtogeeaplepiijaaTotals.lean).
  GIVEN WITH THE SEED: the statements are not yours to turn. If you find one false, say at which input.
  Laid BY PROGRAM, IN A SANDBOX (cutbox-rows.mjs): the forced cells as the released guide's own fill.sh prints them over the translation 1aa21573a1972176… (all of the seat's roots in one cut). By AI agents, Wed Nov 11 2026. No macro, syntax, notation, axiom, sorry.
-/
import Derived.Test.YtogeeaplepiijaaChecked
import GoSem.Claim
import GoSem.ClaimJoined
import GoSem.ClaimMapViews
import Derived.JoinedTies
import Derived.KernelRfl
namespace Go.Proofs.Ytogeeaplepiijaa
/- THE CELL 'sum', in the pinned program and in every row, IS THE sha256 OF THE DUMP (.gsa) THAT YtogeeaplepiijaaProg.lean LOADS. Nothing in Lean hashes anything: it is a label: what it is worth is what the hold of that sum in a sandbox is worth. -/
noncomputable def Try.pinned : Pinned := { name := "ytogeeaplepiijaa", sum := "1aa21573a1972176ccf66d097b2d21308ba9cb71468928fd33ced5a46ae17094", checked := Try.checked }
namespace Rows
def none {H : Type} : Left H := { results := [], args := [] }

/-- 'berthshiftkeep.NumberOrder': WHATEVER THE INPUT: true; the input reads as it did. -/
def numberOrderSpec : ChangeSpec := { name := "numberOrder", fn := fun _ => fun
  | [d1, d2] => { results := [.lit (.bool true)], args := [d1, d2] }
  | _ => none }
def numberOrderRow : OpenClaim := { program := "ytogeeaplepiijaa", sum := "1aa21573a1972176ccf66d097b2d21308ba9cb71468928fd33ced5a46ae17094", func := "berthshift/berthshiftkeep.NumberOrder", spec := "numberOrder", apart := false }
def NumberOrderSaid : Prop := numberOrderRow.holds Try.pinned (OpenSpec.ofChange numberOrderSpec)

/-- ITS FALSE NEIGHBOUR: 'it returns false'. Refute it at one input. -/
def numberOrderWrong : ChangeSpec := { name := "numberOrder", fn := fun _ => fun
  | [d1, d2] => { results := [.lit (.bool false)], args := [d1, d2] }
  | _ => none }
def NumberOrderWrongFalsely : Prop := numberOrderRow.holds Try.pinned (OpenSpec.ofChange numberOrderWrong)

/-- 'berthshiftkeep.SumOne': WHATEVER THE INPUT: true; the input reads as it did. -/
def sumOneSpec : ChangeSpec := { name := "sumOne", fn := fun _ => fun
  | [d1, d2, d3] => { results := [.lit (.bool true)], args := [d1, d2, d3] }
  | _ => none }
def sumOneRow : OpenClaim := { program := "ytogeeaplepiijaa", sum := "1aa21573a1972176ccf66d097b2d21308ba9cb71468928fd33ced5a46ae17094", func := "berthshift/berthshiftkeep.SumOne", spec := "sumOne", apart := false }
def SumOneSaid : Prop := sumOneRow.holds Try.pinned (OpenSpec.ofChange sumOneSpec)

/-- ITS FALSE NEIGHBOUR: 'it returns false'. Refute it at one input. -/
def sumOneWrong : ChangeSpec := { name := "sumOne", fn := fun _ => fun
  | [d1, d2, d3] => { results := [.lit (.bool false)], args := [d1, d2, d3] }
  | _ => none }
def SumOneWrongFalsely : Prop := sumOneRow.holds Try.pinned (OpenSpec.ofChange sumOneWrong)

/-- 'berthshiftkeep.SumSwap': WHATEVER THE INPUT: true; the input reads as it did. -/
def sumSwapSpec : ChangeSpec := { name := "sumSwap", fn := fun _ => fun
  | [d1, d2] => { results := [.lit (.bool true)], args := [d1, d2] }
  | _ => none }
def sumSwapRow : OpenClaim := { program := "ytogeeaplepiijaa", sum := "1aa21573a1972176ccf66d097b2d21308ba9cb71468928fd33ced5a46ae17094", func := "berthshift/berthshiftkeep.SumSwap", spec := "sumSwap", apart := false }
def SumSwapSaid : Prop := sumSwapRow.holds Try.pinned (OpenSpec.ofChange sumSwapSpec)

/-- ITS FALSE NEIGHBOUR: 'it returns false'. Refute it at one input. -/
def sumSwapWrong : ChangeSpec := { name := "sumSwap", fn := fun _ => fun
  | [d1, d2] => { results := [.lit (.bool false)], args := [d1, d2] }
  | _ => none }
def SumSwapWrongFalsely : Prop := sumSwapRow.holds Try.pinned (OpenSpec.ofChange sumSwapWrong)

/-- 'berthshiftkeep.NumberBack': WHATEVER THE INPUT: true; the input reads as it did. -/
def numberBackSpec : ChangeSpec := { name := "numberBack", fn := fun _ => fun
  | [d1, d2] => { results := [.lit (.bool true)], args := [d1, d2] }
  | _ => none }
def numberBackRow : OpenClaim := { program := "ytogeeaplepiijaa", sum := "1aa21573a1972176ccf66d097b2d21308ba9cb71468928fd33ced5a46ae17094", func := "berthshift/berthshiftkeep.NumberBack", spec := "numberBack", apart := false }
def NumberBackSaid : Prop := numberBackRow.holds Try.pinned (OpenSpec.ofChange numberBackSpec)

/-- ITS FALSE NEIGHBOUR: 'it returns false'. Refute it at one input. -/
def numberBackWrong : ChangeSpec := { name := "numberBack", fn := fun _ => fun
  | [d1, d2] => { results := [.lit (.bool false)], args := [d1, d2] }
  | _ => none }
def NumberBackWrongFalsely : Prop := numberBackRow.holds Try.pinned (OpenSpec.ofChange numberBackWrong)

/-- 'berthshiftkeep.CheckBare': WHATEVER THE INPUT: true; the input reads as it did. -/
def checkBareSpec : ChangeSpec := { name := "checkBare", fn := fun _ => fun
  | [d1, d2, d3] => { results := [.lit (.bool true)], args := [d1, d2, d3] }
  | _ => none }
def checkBareRow : OpenClaim := { program := "ytogeeaplepiijaa", sum := "1aa21573a1972176ccf66d097b2d21308ba9cb71468928fd33ced5a46ae17094", func := "berthshift/berthshiftkeep.CheckBare", spec := "checkBare", apart := false }
def CheckBareSaid : Prop := checkBareRow.holds Try.pinned (OpenSpec.ofChange checkBareSpec)

/-- ITS FALSE NEIGHBOUR: 'it returns false'. Refute it at one input. -/
def checkBareWrong : ChangeSpec := { name := "checkBare", fn := fun _ => fun
  | [d1, d2, d3] => { results := [.lit (.bool false)], args := [d1, d2, d3] }
  | _ => none }
def CheckBareWrongFalsely : Prop := checkBareRow.holds Try.pinned (OpenSpec.ofChange checkBareWrong)

/-- 'berthshiftkeep.WindowOnce': WHATEVER THE INPUT: true; the input reads as it did. -/
def windowOnceSpec : ChangeSpec := { name := "windowOnce", fn := fun _ => fun
  | [d1, d2] => { results := [.lit (.bool true)], args := [d1, d2] }
  | _ => none }
def windowOnceRow : OpenClaim := { program := "ytogeeaplepiijaa", sum := "1aa21573a1972176ccf66d097b2d21308ba9cb71468928fd33ced5a46ae17094", func := "berthshift/berthshiftkeep.WindowOnce", spec := "windowOnce", apart := false }
def WindowOnceSaid : Prop := windowOnceRow.holds Try.pinned (OpenSpec.ofChange windowOnceSpec)

/-- ITS FALSE NEIGHBOUR: 'it returns false'. Refute it at one input. -/
def windowOnceWrong : ChangeSpec := { name := "windowOnce", fn := fun _ => fun
  | [d1, d2] => { results := [.lit (.bool false)], args := [d1, d2] }
  | _ => none }
def WindowOnceWrongFalsely : Prop := windowOnceRow.holds Try.pinned (OpenSpec.ofChange windowOnceWrong)

/-- 'berthshiftkeep.WindowTurns': WHATEVER THE INPUT: true; the input reads as it did. -/
def windowTurnsSpec : ChangeSpec := { name := "windowTurns", fn := fun _ => fun
  | [d1, d2, d3] => { results := [.lit (.bool true)], args := [d1, d2, d3] }
  | _ => none }
def windowTurnsRow : OpenClaim := { program := "ytogeeaplepiijaa", sum := "1aa21573a1972176ccf66d097b2d21308ba9cb71468928fd33ced5a46ae17094", func := "berthshift/berthshiftkeep.WindowTurns", spec := "windowTurns", apart := false }
def WindowTurnsSaid : Prop := windowTurnsRow.holds Try.pinned (OpenSpec.ofChange windowTurnsSpec)

/-- ITS FALSE NEIGHBOUR: 'it returns false'. Refute it at one input. -/
def windowTurnsWrong : ChangeSpec := { name := "windowTurns", fn := fun _ => fun
  | [d1, d2, d3] => { results := [.lit (.bool false)], args := [d1, d2, d3] }
  | _ => none }
def WindowTurnsWrongFalsely : Prop := windowTurnsRow.holds Try.pinned (OpenSpec.ofChange windowTurnsWrong)

/-- 'berthshiftkeep.WindowGaps': WHATEVER THE INPUT: true; the input reads as it did. -/
def windowGapsSpec : ChangeSpec := { name := "windowGaps", fn := fun _ => fun
  | [d1, d2, d3] => { results := [.lit (.bool true)], args := [d1, d2, d3] }
  | _ => none }
def windowGapsRow : OpenClaim := { program := "ytogeeaplepiijaa", sum := "1aa21573a1972176ccf66d097b2d21308ba9cb71468928fd33ced5a46ae17094", func := "berthshift/berthshiftkeep.WindowGaps", spec := "windowGaps", apart := false }
def WindowGapsSaid : Prop := windowGapsRow.holds Try.pinned (OpenSpec.ofChange windowGapsSpec)

/-- ITS FALSE NEIGHBOUR: 'it returns false'. Refute it at one input. -/
def windowGapsWrong : ChangeSpec := { name := "windowGaps", fn := fun _ => fun
  | [d1, d2, d3] => { results := [.lit (.bool false)], args := [d1, d2, d3] }
  | _ => none }
def WindowGapsWrongFalsely : Prop := windowGapsRow.holds Try.pinned (OpenSpec.ofChange windowGapsWrong)

/-- 'berthshiftkeep.WindowFar': WHATEVER THE INPUT: true; the input reads as it did. -/
def windowFarSpec : ChangeSpec := { name := "windowFar", fn := fun _ => fun
  | [d1, d2] => { results := [.lit (.bool true)], args := [d1, d2] }
  | _ => none }
def windowFarRow : OpenClaim := { program := "ytogeeaplepiijaa", sum := "1aa21573a1972176ccf66d097b2d21308ba9cb71468928fd33ced5a46ae17094", func := "berthshift/berthshiftkeep.WindowFar", spec := "windowFar", apart := false }
def WindowFarSaid : Prop := windowFarRow.holds Try.pinned (OpenSpec.ofChange windowFarSpec)

/-- ITS FALSE NEIGHBOUR: 'it returns false'. Refute it at one input. -/
def windowFarWrong : ChangeSpec := { name := "windowFar", fn := fun _ => fun
  | [d1, d2] => { results := [.lit (.bool false)], args := [d1, d2] }
  | _ => none }
def WindowFarWrongFalsely : Prop := windowFarRow.holds Try.pinned (OpenSpec.ofChange windowFarWrong)

/- THE SECOND FORM. 'bulk': how many values and letters a reading holds, each counted each time it is reached (what is shared counts as often as it is met; a slice's spare places count too). A statement '..UptoSaid' is the law's where the arguments, and the package variables that the reading takes, are together of bulk at most 1048576: NARROWER than '..Said'. Prove '..Said' where nothing that the law and all that it calls make is longer than what came in: it says more and counts as full. Else prove '..UptoSaid'. A law counts once. -/
mutual
def uptoBulk {H : Type} : DataW H → Nat
  | .lit (.string bytes) => bytes.length + 1
  | .lit _ => 1
  | .nil => 1
  | .ptr d => uptoBulk d + 1
  | .slice elems spare => uptoBulkAll elems + uptoBulkAll spare + 1
  | .agg parts => uptoBulkAll parts + 1
  | .iface _ d => uptoBulk d + 1
  | .map entries => uptoBulkEntries entries + 1
  | .held _ => 1
def uptoBulkAll {H : Type} : List (DataW H) → Nat
  | [] => 0
  | d :: r => uptoBulk d + uptoBulkAll r
def uptoBulkEntries {H : Type} : List (Lit × DataW H) → Nat
  | [] => 0
  | x :: r => uptoBulkEntry x + uptoBulkEntries r
def uptoBulkEntry {H : Type} : Lit × DataW H → Nat
  | (.string bytes, d) => bytes.length + uptoBulk d + 1
  | (_, d) => uptoBulk d + 1
 end
def uptoSmall : (H : Type) → List (DataW H) → Bool := fun _ ds => decide (uptoBulkAll ds ≤ 1048576)
def OpenSpec.upto (s : _root_.Go.ChangeSpec) : _root_.Go.OpenSpec := { _root_.Go.OpenSpec.ofChange s with cond := some uptoSmall }

/-- 'berthshiftkeep.NumberOrder', WHERE WHAT IT READS IS OF BULK AT MOST 1048576: true; the input reads as it did. -/
def numberOrderUptoRow : OpenClaim := { program := "ytogeeaplepiijaa", sum := "1aa21573a1972176ccf66d097b2d21308ba9cb71468928fd33ced5a46ae17094", func := "berthshift/berthshiftkeep.NumberOrder", spec := "numberOrder", apart := false, narrowed := true }
def NumberOrderUptoSaid : Prop := numberOrderUptoRow.holds Try.pinned (OpenSpec.upto numberOrderSpec)

/-- 'berthshiftkeep.SumOne', WHERE WHAT IT READS IS OF BULK AT MOST 1048576: true; the input reads as it did. -/
def sumOneUptoRow : OpenClaim := { program := "ytogeeaplepiijaa", sum := "1aa21573a1972176ccf66d097b2d21308ba9cb71468928fd33ced5a46ae17094", func := "berthshift/berthshiftkeep.SumOne", spec := "sumOne", apart := false, narrowed := true }
def SumOneUptoSaid : Prop := sumOneUptoRow.holds Try.pinned (OpenSpec.upto sumOneSpec)

/-- 'berthshiftkeep.SumSwap', WHERE WHAT IT READS IS OF BULK AT MOST 1048576: true; the input reads as it did. -/
def sumSwapUptoRow : OpenClaim := { program := "ytogeeaplepiijaa", sum := "1aa21573a1972176ccf66d097b2d21308ba9cb71468928fd33ced5a46ae17094", func := "berthshift/berthshiftkeep.SumSwap", spec := "sumSwap", apart := false, narrowed := true }
def SumSwapUptoSaid : Prop := sumSwapUptoRow.holds Try.pinned (OpenSpec.upto sumSwapSpec)

/-- 'berthshiftkeep.NumberBack', WHERE WHAT IT READS IS OF BULK AT MOST 1048576: true; the input reads as it did. -/
def numberBackUptoRow : OpenClaim := { program := "ytogeeaplepiijaa", sum := "1aa21573a1972176ccf66d097b2d21308ba9cb71468928fd33ced5a46ae17094", func := "berthshift/berthshiftkeep.NumberBack", spec := "numberBack", apart := false, narrowed := true }
def NumberBackUptoSaid : Prop := numberBackUptoRow.holds Try.pinned (OpenSpec.upto numberBackSpec)

/-- 'berthshiftkeep.CheckBare', WHERE WHAT IT READS IS OF BULK AT MOST 1048576: true; the input reads as it did. -/
def checkBareUptoRow : OpenClaim := { program := "ytogeeaplepiijaa", sum := "1aa21573a1972176ccf66d097b2d21308ba9cb71468928fd33ced5a46ae17094", func := "berthshift/berthshiftkeep.CheckBare", spec := "checkBare", apart := false, narrowed := true }
def CheckBareUptoSaid : Prop := checkBareUptoRow.holds Try.pinned (OpenSpec.upto checkBareSpec)

/-- 'berthshiftkeep.WindowOnce', WHERE WHAT IT READS IS OF BULK AT MOST 1048576: true; the input reads as it did. -/
def windowOnceUptoRow : OpenClaim := { program := "ytogeeaplepiijaa", sum := "1aa21573a1972176ccf66d097b2d21308ba9cb71468928fd33ced5a46ae17094", func := "berthshift/berthshiftkeep.WindowOnce", spec := "windowOnce", apart := false, narrowed := true }
def WindowOnceUptoSaid : Prop := windowOnceUptoRow.holds Try.pinned (OpenSpec.upto windowOnceSpec)

/-- 'berthshiftkeep.WindowTurns', WHERE WHAT IT READS IS OF BULK AT MOST 1048576: true; the input reads as it did. -/
def windowTurnsUptoRow : OpenClaim := { program := "ytogeeaplepiijaa", sum := "1aa21573a1972176ccf66d097b2d21308ba9cb71468928fd33ced5a46ae17094", func := "berthshift/berthshiftkeep.WindowTurns", spec := "windowTurns", apart := false, narrowed := true }
def WindowTurnsUptoSaid : Prop := windowTurnsUptoRow.holds Try.pinned (OpenSpec.upto windowTurnsSpec)

/-- 'berthshiftkeep.WindowGaps', WHERE WHAT IT READS IS OF BULK AT MOST 1048576: true; the input reads as it did. -/
def windowGapsUptoRow : OpenClaim := { program := "ytogeeaplepiijaa", sum := "1aa21573a1972176ccf66d097b2d21308ba9cb71468928fd33ced5a46ae17094", func := "berthshift/berthshiftkeep.WindowGaps", spec := "windowGaps", apart := false, narrowed := true }
def WindowGapsUptoSaid : Prop := windowGapsUptoRow.holds Try.pinned (OpenSpec.upto windowGapsSpec)

/-- 'berthshiftkeep.WindowFar', WHERE WHAT IT READS IS OF BULK AT MOST 1048576: true; the input reads as it did. -/
def windowFarUptoRow : OpenClaim := { program := "ytogeeaplepiijaa", sum := "1aa21573a1972176ccf66d097b2d21308ba9cb71468928fd33ced5a46ae17094", func := "berthshift/berthshiftkeep.WindowFar", spec := "windowFar", apart := false, narrowed := true }
def WindowFarUptoSaid : Prop := windowFarUptoRow.holds Try.pinned (OpenSpec.upto windowFarSpec)

end Rows
end Go.Proofs.Ytogeeaplepiijaa
