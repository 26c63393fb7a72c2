/-
  NARROWER THAN 'FOR EVERY INPUT', by the rows' own cells (each row's printed sentence says how): FlipOnce: laid · FlipRises: laid · DirectoryApart: laid.
  DERIVED. THE GIVEN ROWS OF THIS SEAT. 3 by the template 'for every input the law returns true; each argument reads behind the call as it read before'; 0 by the template 'total and deterministic' (their statements: YtogeeaplepiijaaDoorTotals.lean).
  GIVEN WITH THE SEED: the statements are not yours to turn. If you find one false, say at which input.
  Laid BY PROGRAM, IN A SANDBOX (cutbox-rows.mjs): the forced cells as the released guide's own fill.sh prints them over the translation 77055565e2458977… (all of the seat's roots in one cut). By AI agents, Wed Nov 11 2026. No macro, syntax, notation, axiom, sorry.
-/
import Derived.Test.YtogeeaplepiijaaDoorChecked
import GoSem.Claim
import GoSem.ClaimJoined
import GoSem.ClaimMapViews
import Derived.JoinedTies
import Derived.KernelRfl
namespace Go.Proofs.YtogeeaplepiijaaDoor
/- THE CELL 'sum', in the pinned program and in every row, IS THE sha256 OF THE DUMP (.gsa) THAT YtogeeaplepiijaaDoorProg.lean LOADS. Nothing in Lean hashes anything: it is a label: what it is worth is what the hold of that sum in a sandbox is worth. -/
noncomputable def Tryd.pinned : Pinned := { name := "ytogeeaplepiijaadoor", sum := "77055565e2458977b6e1a9d2355d00fc576964739fd90aae317c615ce06ac35b", checked := Tryd.checked }
namespace Rows
def none {H : Type} : Left H := { results := [], args := [] }

/- WHAT THE LISTED PACKAGE-LEVEL VARIABLES READ AS WHEN THE CALL BEGINS. Each datum BY PROGRAM (the guide's laid-datum.mjs) off the statement by which the dump's own 'gosem.cut.vars' lays the variable. In a bare row this is a premise. The card (YtogeeaplepiijaaDoorCards.lean) ties it to the program's text. -/
def laid_berthshift_directory_nowhere {H : Type} : DataW H := .agg [.lit (.int .i64 (-1)), .lit (.int .i64 0)]

/-- 'berthshiftkeep.FlipOnce': WHATEVER THE INPUT: true; the input reads as it did. -/
def flipOnceSpec : ChangeSpec := { name := "flipOnce", fn := fun _ => fun
  | [d1, d2, d3, d4] => { results := [.lit (.bool true)], args := [d1, d2, d3, d4] }
  | _ => none }
def flipOnceRow : OpenClaim := { program := "ytogeeaplepiijaadoor", sum := "77055565e2458977b6e1a9d2355d00fc576964739fd90aae317c615ce06ac35b", func := "berthshift/berthshiftkeep.FlipOnce", spec := "flipOnce", named := ["berthshift/directory.nowhere"], apart := false, laid := [("berthshift/directory.nowhere", laid_berthshift_directory_nowhere)] }
def FlipOnceSaid : Prop := flipOnceRow.holds Tryd.pinned (OpenSpec.ofChange flipOnceSpec)

/-- ITS FALSE NEIGHBOUR: 'it returns false'. Refute it at one input. -/
def flipOnceWrong : ChangeSpec := { name := "flipOnce", fn := fun _ => fun
  | [d1, d2, d3, d4] => { results := [.lit (.bool false)], args := [d1, d2, d3, d4] }
  | _ => none }
def FlipOnceWrongFalsely : Prop := flipOnceRow.holds Tryd.pinned (OpenSpec.ofChange flipOnceWrong)

/-- 'berthshiftkeep.FlipRises': WHATEVER THE INPUT: true; the input reads as it did. -/
def flipRisesSpec : ChangeSpec := { name := "flipRises", fn := fun _ => fun
  | [d1, d2] => { results := [.lit (.bool true)], args := [d1, d2] }
  | _ => none }
def flipRisesRow : OpenClaim := { program := "ytogeeaplepiijaadoor", sum := "77055565e2458977b6e1a9d2355d00fc576964739fd90aae317c615ce06ac35b", func := "berthshift/berthshiftkeep.FlipRises", spec := "flipRises", named := ["berthshift/directory.nowhere"], apart := false, laid := [("berthshift/directory.nowhere", laid_berthshift_directory_nowhere)] }
def FlipRisesSaid : Prop := flipRisesRow.holds Tryd.pinned (OpenSpec.ofChange flipRisesSpec)

/-- ITS FALSE NEIGHBOUR: 'it returns false'. Refute it at one input. -/
def flipRisesWrong : ChangeSpec := { name := "flipRises", fn := fun _ => fun
  | [d1, d2] => { results := [.lit (.bool false)], args := [d1, d2] }
  | _ => none }
def FlipRisesWrongFalsely : Prop := flipRisesRow.holds Tryd.pinned (OpenSpec.ofChange flipRisesWrong)

/-- 'berthshiftkeep.DirectoryApart': WHATEVER THE INPUT: true; the input reads as it did. -/
def directoryApartSpec : ChangeSpec := { name := "directoryApart", fn := fun _ => fun
  | [d1, d2, d3] => { results := [.lit (.bool true)], args := [d1, d2, d3] }
  | _ => none }
def directoryApartRow : OpenClaim := { program := "ytogeeaplepiijaadoor", sum := "77055565e2458977b6e1a9d2355d00fc576964739fd90aae317c615ce06ac35b", func := "berthshift/berthshiftkeep.DirectoryApart", spec := "directoryApart", named := ["berthshift/directory.nowhere"], apart := false, laid := [("berthshift/directory.nowhere", laid_berthshift_directory_nowhere)] }
def DirectoryApartSaid : Prop := directoryApartRow.holds Tryd.pinned (OpenSpec.ofChange directoryApartSpec)

/-- ITS FALSE NEIGHBOUR: 'it returns false'. Refute it at one input. -/
def directoryApartWrong : ChangeSpec := { name := "directoryApart", fn := fun _ => fun
  | [d1, d2, d3] => { results := [.lit (.bool false)], args := [d1, d2, d3] }
  | _ => none }
def DirectoryApartWrongFalsely : Prop := directoryApartRow.holds Tryd.pinned (OpenSpec.ofChange directoryApartWrong)

/- THE SECOND FORM. 'bulk': how many values and letters a reading holds, each counted each time it is reached (what is shared counts as often as it is met; a slice's spare places count too). A statement '..UptoSaid' is the law's where the arguments, and the package variables that the reading takes, are together of bulk at most 1048576: NARROWER than '..Said'. Prove '..Said' where nothing that the law and all that it calls make is longer than what came in: it says more and counts as full. Else prove '..UptoSaid'. A law counts once. -/
mutual
def uptoBulk {H : Type} : DataW H → Nat
  | .lit (.string bytes) => bytes.length + 1
  | .lit _ => 1
  | .nil => 1
  | .ptr d => uptoBulk d + 1
  | .slice elems spare => uptoBulkAll elems + uptoBulkAll spare + 1
  | .agg parts => uptoBulkAll parts + 1
  | .iface _ d => uptoBulk d + 1
  | .map entries => uptoBulkEntries entries + 1
  | .held _ => 1
def uptoBulkAll {H : Type} : List (DataW H) → Nat
  | [] => 0
  | d :: r => uptoBulk d + uptoBulkAll r
def uptoBulkEntries {H : Type} : List (Lit × DataW H) → Nat
  | [] => 0
  | x :: r => uptoBulkEntry x + uptoBulkEntries r
def uptoBulkEntry {H : Type} : Lit × DataW H → Nat
  | (.string bytes, d) => bytes.length + uptoBulk d + 1
  | (_, d) => uptoBulk d + 1
 end
def uptoSmall : (H : Type) → List (DataW H) → Bool := fun _ ds => decide (uptoBulkAll ds ≤ 1048576)
def OpenSpec.upto (s : _root_.Go.ChangeSpec) : _root_.Go.OpenSpec := { _root_.Go.OpenSpec.ofChange s with cond := some uptoSmall }

/-- 'berthshiftkeep.FlipOnce', WHERE WHAT IT READS IS OF BULK AT MOST 1048576: true; the input reads as it did. -/
def flipOnceUptoRow : OpenClaim := { program := "ytogeeaplepiijaadoor", sum := "77055565e2458977b6e1a9d2355d00fc576964739fd90aae317c615ce06ac35b", func := "berthshift/berthshiftkeep.FlipOnce", spec := "flipOnce", named := ["berthshift/directory.nowhere"], apart := false, laid := [("berthshift/directory.nowhere", laid_berthshift_directory_nowhere)], narrowed := true }
def FlipOnceUptoSaid : Prop := flipOnceUptoRow.holds Tryd.pinned (OpenSpec.upto flipOnceSpec)

/-- 'berthshiftkeep.FlipRises', WHERE WHAT IT READS IS OF BULK AT MOST 1048576: true; the input reads as it did. -/
def flipRisesUptoRow : OpenClaim := { program := "ytogeeaplepiijaadoor", sum := "77055565e2458977b6e1a9d2355d00fc576964739fd90aae317c615ce06ac35b", func := "berthshift/berthshiftkeep.FlipRises", spec := "flipRises", named := ["berthshift/directory.nowhere"], apart := false, laid := [("berthshift/directory.nowhere", laid_berthshift_directory_nowhere)], narrowed := true }
def FlipRisesUptoSaid : Prop := flipRisesUptoRow.holds Tryd.pinned (OpenSpec.upto flipRisesSpec)

/-- 'berthshiftkeep.DirectoryApart', WHERE WHAT IT READS IS OF BULK AT MOST 1048576: true; the input reads as it did. -/
def directoryApartUptoRow : OpenClaim := { program := "ytogeeaplepiijaadoor", sum := "77055565e2458977b6e1a9d2355d00fc576964739fd90aae317c615ce06ac35b", func := "berthshift/berthshiftkeep.DirectoryApart", spec := "directoryApart", named := ["berthshift/directory.nowhere"], apart := false, laid := [("berthshift/directory.nowhere", laid_berthshift_directory_nowhere)], narrowed := true }
def DirectoryApartUptoSaid : Prop := directoryApartUptoRow.holds Tryd.pinned (OpenSpec.upto directoryApartSpec)

end Rows
end Go.Proofs.YtogeeaplepiijaaDoor
