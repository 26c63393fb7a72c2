/-
  No cell of these rows narrows 'for every input' (looked for: loops, veiled, ifaces, maps, wideKeys, modest, calm, conditions, laid).
  DERIVED. THE GIVEN ROWS OF THIS SEAT. 10 by the template 'for every input the law returns true; each argument reads behind the call as it read before'; 0 by the template 'total and deterministic' (their statements: YtcgamaponeglhaaTotals.lean).
  GIVEN WITH THE SEED: the statements are not yours to turn. If you find one false, say at which input.
  Laid BY PROGRAM, IN A SANDBOX (cutbox-rows.mjs): the forced cells as the released guide's own fill.sh prints them over the translation 0077489224c52edf… (all of the seat's roots in one cut). By AI agents, Wed Nov 11 2026. No macro, syntax, notation, axiom, sorry.
-/
import Derived.Test.YtcgamaponeglhaaChecked
import GoSem.Claim
import GoSem.ClaimJoined
import GoSem.ClaimMapViews
import Derived.JoinedTies
import Derived.KernelRfl
namespace Go.Proofs.Ytcgamaponeglhaa
/- THE CELL 'sum', in the pinned program and in every row, IS THE sha256 OF THE DUMP (.gsa) THAT YtcgamaponeglhaaProg.lean LOADS. Nothing in Lean hashes anything: it is a label: what it is worth is what the hold of that sum in a sandbox is worth. -/
noncomputable def Try.pinned : Pinned := { name := "ytcgamaponeglhaa", sum := "0077489224c52edfdbdc92e3405b4d25f811bde13caeae0248a586fc4b2067e7", checked := Try.checked }
namespace Rows
def none {H : Type} : Left H := { results := [], args := [] }

/-- 'berthshiftkeep.RecordSize': WHATEVER THE INPUT: true; the input reads as it did. -/
def recordSizeSpec : ChangeSpec := { name := "recordSize", fn := fun _ => fun
  | [d1, d2] => { results := [.lit (.bool true)], args := [d1, d2] }
  | _ => none }
def recordSizeRow : OpenClaim := { program := "ytcgamaponeglhaa", sum := "0077489224c52edfdbdc92e3405b4d25f811bde13caeae0248a586fc4b2067e7", func := "berthshift/berthshiftkeep.RecordSize", spec := "recordSize", apart := false }
def RecordSizeSaid : Prop := recordSizeRow.holds Try.pinned (OpenSpec.ofChange recordSizeSpec)

/-- ITS FALSE NEIGHBOUR: 'it returns false'. Refute it at one input. -/
def recordSizeWrong : ChangeSpec := { name := "recordSize", fn := fun _ => fun
  | [d1, d2] => { results := [.lit (.bool false)], args := [d1, d2] }
  | _ => none }
def RecordSizeWrongFalsely : Prop := recordSizeRow.holds Try.pinned (OpenSpec.ofChange recordSizeWrong)

/-- 'berthshiftkeep.RecordBack': WHATEVER THE INPUT: true; the input reads as it did. -/
def recordBackSpec : ChangeSpec := { name := "recordBack", fn := fun _ => fun
  | [d1, d2] => { results := [.lit (.bool true)], args := [d1, d2] }
  | _ => none }
def recordBackRow : OpenClaim := { program := "ytcgamaponeglhaa", sum := "0077489224c52edfdbdc92e3405b4d25f811bde13caeae0248a586fc4b2067e7", func := "berthshift/berthshiftkeep.RecordBack", spec := "recordBack", unfollowed := true, recurses := true, apart := false }
def RecordBackSaid : Prop := recordBackRow.holds Try.pinned (OpenSpec.ofChange recordBackSpec)

/-- ITS FALSE NEIGHBOUR: 'it returns false'. Refute it at one input. -/
def recordBackWrong : ChangeSpec := { name := "recordBack", fn := fun _ => fun
  | [d1, d2] => { results := [.lit (.bool false)], args := [d1, d2] }
  | _ => none }
def RecordBackWrongFalsely : Prop := recordBackRow.holds Try.pinned (OpenSpec.ofChange recordBackWrong)

/-- 'berthshiftkeep.RecordFixed': WHATEVER THE INPUT: true; the input reads as it did. -/
def recordFixedSpec : ChangeSpec := { name := "recordFixed", fn := fun _ => fun
  | [d] => { results := [.lit (.bool true)], args := [d] }
  | _ => none }
def recordFixedRow : OpenClaim := { program := "ytcgamaponeglhaa", sum := "0077489224c52edfdbdc92e3405b4d25f811bde13caeae0248a586fc4b2067e7", func := "berthshift/berthshiftkeep.RecordFixed", spec := "recordFixed", unfollowed := true, recurses := true, apart := false }
def RecordFixedSaid : Prop := recordFixedRow.holds Try.pinned (OpenSpec.ofChange recordFixedSpec)

/-- ITS FALSE NEIGHBOUR: 'it returns false'. Refute it at one input. -/
def recordFixedWrong : ChangeSpec := { name := "recordFixed", fn := fun _ => fun
  | [d] => { results := [.lit (.bool false)], args := [d] }
  | _ => none }
def RecordFixedWrongFalsely : Prop := recordFixedRow.holds Try.pinned (OpenSpec.ofChange recordFixedWrong)

/-- 'berthshiftkeep.RecordTorn': WHATEVER THE INPUT: true; the input reads as it did. -/
def recordTornSpec : ChangeSpec := { name := "recordTorn", fn := fun _ => fun
  | [d1, d2, d3, d4] => { results := [.lit (.bool true)], args := [d1, d2, d3, d4] }
  | _ => none }
def recordTornRow : OpenClaim := { program := "ytcgamaponeglhaa", sum := "0077489224c52edfdbdc92e3405b4d25f811bde13caeae0248a586fc4b2067e7", func := "berthshift/berthshiftkeep.RecordTorn", spec := "recordTorn", unfollowed := true, recurses := true, apart := false }
def RecordTornSaid : Prop := recordTornRow.holds Try.pinned (OpenSpec.ofChange recordTornSpec)

/-- ITS FALSE NEIGHBOUR: 'it returns false'. Refute it at one input. -/
def recordTornWrong : ChangeSpec := { name := "recordTorn", fn := fun _ => fun
  | [d1, d2, d3, d4] => { results := [.lit (.bool false)], args := [d1, d2, d3, d4] }
  | _ => none }
def RecordTornWrongFalsely : Prop := recordTornRow.holds Try.pinned (OpenSpec.ofChange recordTornWrong)

/-- 'berthshiftkeep.TapeGrows': WHATEVER THE INPUT: true; the input reads as it did. -/
def tapeGrowsSpec : ChangeSpec := { name := "tapeGrows", fn := fun _ => fun
  | [d1, d2, d3] => { results := [.lit (.bool true)], args := [d1, d2, d3] }
  | _ => none }
def tapeGrowsRow : OpenClaim := { program := "ytcgamaponeglhaa", sum := "0077489224c52edfdbdc92e3405b4d25f811bde13caeae0248a586fc4b2067e7", func := "berthshift/berthshiftkeep.TapeGrows", spec := "tapeGrows", apart := false }
def TapeGrowsSaid : Prop := tapeGrowsRow.holds Try.pinned (OpenSpec.ofChange tapeGrowsSpec)

/-- ITS FALSE NEIGHBOUR: 'it returns false'. Refute it at one input. -/
def tapeGrowsWrong : ChangeSpec := { name := "tapeGrows", fn := fun _ => fun
  | [d1, d2, d3] => { results := [.lit (.bool false)], args := [d1, d2, d3] }
  | _ => none }
def TapeGrowsWrongFalsely : Prop := tapeGrowsRow.holds Try.pinned (OpenSpec.ofChange tapeGrowsWrong)

/-- 'berthshiftkeep.TapeSafe': WHATEVER THE INPUT: true; the input reads as it did. -/
def tapeSafeSpec : ChangeSpec := { name := "tapeSafe", fn := fun _ => fun
  | [d1, d2, d3] => { results := [.lit (.bool true)], args := [d1, d2, d3] }
  | _ => none }
def tapeSafeRow : OpenClaim := { program := "ytcgamaponeglhaa", sum := "0077489224c52edfdbdc92e3405b4d25f811bde13caeae0248a586fc4b2067e7", func := "berthshift/berthshiftkeep.TapeSafe", spec := "tapeSafe", apart := false }
def TapeSafeSaid : Prop := tapeSafeRow.holds Try.pinned (OpenSpec.ofChange tapeSafeSpec)

/-- ITS FALSE NEIGHBOUR: 'it returns false'. Refute it at one input. -/
def tapeSafeWrong : ChangeSpec := { name := "tapeSafe", fn := fun _ => fun
  | [d1, d2, d3] => { results := [.lit (.bool false)], args := [d1, d2, d3] }
  | _ => none }
def TapeSafeWrongFalsely : Prop := tapeSafeRow.holds Try.pinned (OpenSpec.ofChange tapeSafeWrong)

/-- 'berthshiftkeep.TapeBack': WHATEVER THE INPUT: true; the input reads as it did. -/
def tapeBackSpec : ChangeSpec := { name := "tapeBack", fn := fun _ => fun
  | [d] => { results := [.lit (.bool true)], args := [d] }
  | _ => none }
def tapeBackRow : OpenClaim := { program := "ytcgamaponeglhaa", sum := "0077489224c52edfdbdc92e3405b4d25f811bde13caeae0248a586fc4b2067e7", func := "berthshift/berthshiftkeep.TapeBack", spec := "tapeBack", unfollowed := true, recurses := true, apart := false }
def TapeBackSaid : Prop := tapeBackRow.holds Try.pinned (OpenSpec.ofChange tapeBackSpec)

/-- ITS FALSE NEIGHBOUR: 'it returns false'. Refute it at one input. -/
def tapeBackWrong : ChangeSpec := { name := "tapeBack", fn := fun _ => fun
  | [d] => { results := [.lit (.bool false)], args := [d] }
  | _ => none }
def TapeBackWrongFalsely : Prop := tapeBackRow.holds Try.pinned (OpenSpec.ofChange tapeBackWrong)

/-- 'berthshiftkeep.TapeTorn': WHATEVER THE INPUT: true; the input reads as it did. -/
def tapeTornSpec : ChangeSpec := { name := "tapeTorn", fn := fun _ => fun
  | [d1, d2] => { results := [.lit (.bool true)], args := [d1, d2] }
  | _ => none }
def tapeTornRow : OpenClaim := { program := "ytcgamaponeglhaa", sum := "0077489224c52edfdbdc92e3405b4d25f811bde13caeae0248a586fc4b2067e7", func := "berthshift/berthshiftkeep.TapeTorn", spec := "tapeTorn", unfollowed := true, recurses := true, apart := false }
def TapeTornSaid : Prop := tapeTornRow.holds Try.pinned (OpenSpec.ofChange tapeTornSpec)

/-- ITS FALSE NEIGHBOUR: 'it returns false'. Refute it at one input. -/
def tapeTornWrong : ChangeSpec := { name := "tapeTorn", fn := fun _ => fun
  | [d1, d2] => { results := [.lit (.bool false)], args := [d1, d2] }
  | _ => none }
def TapeTornWrongFalsely : Prop := tapeTornRow.holds Try.pinned (OpenSpec.ofChange tapeTornWrong)

/-- 'berthshiftkeep.RepairAgain': WHATEVER THE INPUT: true; the input reads as it did. -/
def repairAgainSpec : ChangeSpec := { name := "repairAgain", fn := fun _ => fun
  | [d1, d2] => { results := [.lit (.bool true)], args := [d1, d2] }
  | _ => none }
def repairAgainRow : OpenClaim := { program := "ytcgamaponeglhaa", sum := "0077489224c52edfdbdc92e3405b4d25f811bde13caeae0248a586fc4b2067e7", func := "berthshift/berthshiftkeep.RepairAgain", spec := "repairAgain", unfollowed := true, recurses := true, apart := false }
def RepairAgainSaid : Prop := repairAgainRow.holds Try.pinned (OpenSpec.ofChange repairAgainSpec)

/-- ITS FALSE NEIGHBOUR: 'it returns false'. Refute it at one input. -/
def repairAgainWrong : ChangeSpec := { name := "repairAgain", fn := fun _ => fun
  | [d1, d2] => { results := [.lit (.bool false)], args := [d1, d2] }
  | _ => none }
def RepairAgainWrongFalsely : Prop := repairAgainRow.holds Try.pinned (OpenSpec.ofChange repairAgainWrong)

/-- 'berthshiftkeep.TapeKeeps': WHATEVER THE INPUT: true; the input reads as it did. -/
def tapeKeepsSpec : ChangeSpec := { name := "tapeKeeps", fn := fun _ => fun
  | [d1, d2, d3, d4, d5] => { results := [.lit (.bool true)], args := [d1, d2, d3, d4, d5] }
  | _ => none }
def tapeKeepsRow : OpenClaim := { program := "ytcgamaponeglhaa", sum := "0077489224c52edfdbdc92e3405b4d25f811bde13caeae0248a586fc4b2067e7", func := "berthshift/berthshiftkeep.TapeKeeps", spec := "tapeKeeps", unfollowed := true, recurses := true, apart := false }
def TapeKeepsSaid : Prop := tapeKeepsRow.holds Try.pinned (OpenSpec.ofChange tapeKeepsSpec)

/-- ITS FALSE NEIGHBOUR: 'it returns false'. Refute it at one input. -/
def tapeKeepsWrong : ChangeSpec := { name := "tapeKeeps", fn := fun _ => fun
  | [d1, d2, d3, d4, d5] => { results := [.lit (.bool false)], args := [d1, d2, d3, d4, d5] }
  | _ => none }
def TapeKeepsWrongFalsely : Prop := tapeKeepsRow.holds Try.pinned (OpenSpec.ofChange tapeKeepsWrong)

/- THE SECOND FORM. 'bulk': how many values and letters a reading holds, each counted each time it is reached (what is shared counts as often as it is met; a slice's spare places count too). A statement '..UptoSaid' is the law's where the arguments, and the package variables that the reading takes, are together of bulk at most 1048576: NARROWER than '..Said'. Prove '..Said' where nothing that the law and all that it calls make is longer than what came in: it says more and counts as full. Else prove '..UptoSaid'. A law counts once. -/
mutual
def uptoBulk {H : Type} : DataW H → Nat
  | .lit (.string bytes) => bytes.length + 1
  | .lit _ => 1
  | .nil => 1
  | .ptr d => uptoBulk d + 1
  | .slice elems spare => uptoBulkAll elems + uptoBulkAll spare + 1
  | .agg parts => uptoBulkAll parts + 1
  | .iface _ d => uptoBulk d + 1
  | .map entries => uptoBulkEntries entries + 1
  | .held _ => 1
def uptoBulkAll {H : Type} : List (DataW H) → Nat
  | [] => 0
  | d :: r => uptoBulk d + uptoBulkAll r
def uptoBulkEntries {H : Type} : List (Lit × DataW H) → Nat
  | [] => 0
  | x :: r => uptoBulkEntry x + uptoBulkEntries r
def uptoBulkEntry {H : Type} : Lit × DataW H → Nat
  | (.string bytes, d) => bytes.length + uptoBulk d + 1
  | (_, d) => uptoBulk d + 1
 end
def uptoSmall : (H : Type) → List (DataW H) → Bool := fun _ ds => decide (uptoBulkAll ds ≤ 1048576)
def OpenSpec.upto (s : _root_.Go.ChangeSpec) : _root_.Go.OpenSpec := { _root_.Go.OpenSpec.ofChange s with cond := some uptoSmall }

/-- 'berthshiftkeep.RecordSize', WHERE WHAT IT READS IS OF BULK AT MOST 1048576: true; the input reads as it did. -/
def recordSizeUptoRow : OpenClaim := { program := "ytcgamaponeglhaa", sum := "0077489224c52edfdbdc92e3405b4d25f811bde13caeae0248a586fc4b2067e7", func := "berthshift/berthshiftkeep.RecordSize", spec := "recordSize", apart := false, narrowed := true }
def RecordSizeUptoSaid : Prop := recordSizeUptoRow.holds Try.pinned (OpenSpec.upto recordSizeSpec)

/-- 'berthshiftkeep.RecordBack', WHERE WHAT IT READS IS OF BULK AT MOST 1048576: true; the input reads as it did. -/
def recordBackUptoRow : OpenClaim := { program := "ytcgamaponeglhaa", sum := "0077489224c52edfdbdc92e3405b4d25f811bde13caeae0248a586fc4b2067e7", func := "berthshift/berthshiftkeep.RecordBack", spec := "recordBack", unfollowed := true, recurses := true, apart := false, narrowed := true }
def RecordBackUptoSaid : Prop := recordBackUptoRow.holds Try.pinned (OpenSpec.upto recordBackSpec)

/-- 'berthshiftkeep.RecordFixed', WHERE WHAT IT READS IS OF BULK AT MOST 1048576: true; the input reads as it did. -/
def recordFixedUptoRow : OpenClaim := { program := "ytcgamaponeglhaa", sum := "0077489224c52edfdbdc92e3405b4d25f811bde13caeae0248a586fc4b2067e7", func := "berthshift/berthshiftkeep.RecordFixed", spec := "recordFixed", unfollowed := true, recurses := true, apart := false, narrowed := true }
def RecordFixedUptoSaid : Prop := recordFixedUptoRow.holds Try.pinned (OpenSpec.upto recordFixedSpec)

/-- 'berthshiftkeep.RecordTorn', WHERE WHAT IT READS IS OF BULK AT MOST 1048576: true; the input reads as it did. -/
def recordTornUptoRow : OpenClaim := { program := "ytcgamaponeglhaa", sum := "0077489224c52edfdbdc92e3405b4d25f811bde13caeae0248a586fc4b2067e7", func := "berthshift/berthshiftkeep.RecordTorn", spec := "recordTorn", unfollowed := true, recurses := true, apart := false, narrowed := true }
def RecordTornUptoSaid : Prop := recordTornUptoRow.holds Try.pinned (OpenSpec.upto recordTornSpec)

/-- 'berthshiftkeep.TapeGrows', WHERE WHAT IT READS IS OF BULK AT MOST 1048576: true; the input reads as it did. -/
def tapeGrowsUptoRow : OpenClaim := { program := "ytcgamaponeglhaa", sum := "0077489224c52edfdbdc92e3405b4d25f811bde13caeae0248a586fc4b2067e7", func := "berthshift/berthshiftkeep.TapeGrows", spec := "tapeGrows", apart := false, narrowed := true }
def TapeGrowsUptoSaid : Prop := tapeGrowsUptoRow.holds Try.pinned (OpenSpec.upto tapeGrowsSpec)

/-- 'berthshiftkeep.TapeSafe', WHERE WHAT IT READS IS OF BULK AT MOST 1048576: true; the input reads as it did. -/
def tapeSafeUptoRow : OpenClaim := { program := "ytcgamaponeglhaa", sum := "0077489224c52edfdbdc92e3405b4d25f811bde13caeae0248a586fc4b2067e7", func := "berthshift/berthshiftkeep.TapeSafe", spec := "tapeSafe", apart := false, narrowed := true }
def TapeSafeUptoSaid : Prop := tapeSafeUptoRow.holds Try.pinned (OpenSpec.upto tapeSafeSpec)

/-- 'berthshiftkeep.TapeBack', WHERE WHAT IT READS IS OF BULK AT MOST 1048576: true; the input reads as it did. -/
def tapeBackUptoRow : OpenClaim := { program := "ytcgamaponeglhaa", sum := "0077489224c52edfdbdc92e3405b4d25f811bde13caeae0248a586fc4b2067e7", func := "berthshift/berthshiftkeep.TapeBack", spec := "tapeBack", unfollowed := true, recurses := true, apart := false, narrowed := true }
def TapeBackUptoSaid : Prop := tapeBackUptoRow.holds Try.pinned (OpenSpec.upto tapeBackSpec)

/-- 'berthshiftkeep.TapeTorn', WHERE WHAT IT READS IS OF BULK AT MOST 1048576: true; the input reads as it did. -/
def tapeTornUptoRow : OpenClaim := { program := "ytcgamaponeglhaa", sum := "0077489224c52edfdbdc92e3405b4d25f811bde13caeae0248a586fc4b2067e7", func := "berthshift/berthshiftkeep.TapeTorn", spec := "tapeTorn", unfollowed := true, recurses := true, apart := false, narrowed := true }
def TapeTornUptoSaid : Prop := tapeTornUptoRow.holds Try.pinned (OpenSpec.upto tapeTornSpec)

/-- 'berthshiftkeep.RepairAgain', WHERE WHAT IT READS IS OF BULK AT MOST 1048576: true; the input reads as it did. -/
def repairAgainUptoRow : OpenClaim := { program := "ytcgamaponeglhaa", sum := "0077489224c52edfdbdc92e3405b4d25f811bde13caeae0248a586fc4b2067e7", func := "berthshift/berthshiftkeep.RepairAgain", spec := "repairAgain", unfollowed := true, recurses := true, apart := false, narrowed := true }
def RepairAgainUptoSaid : Prop := repairAgainUptoRow.holds Try.pinned (OpenSpec.upto repairAgainSpec)

/-- 'berthshiftkeep.TapeKeeps', WHERE WHAT IT READS IS OF BULK AT MOST 1048576: true; the input reads as it did. -/
def tapeKeepsUptoRow : OpenClaim := { program := "ytcgamaponeglhaa", sum := "0077489224c52edfdbdc92e3405b4d25f811bde13caeae0248a586fc4b2067e7", func := "berthshift/berthshiftkeep.TapeKeeps", spec := "tapeKeeps", unfollowed := true, recurses := true, apart := false, narrowed := true }
def TapeKeepsUptoSaid : Prop := tapeKeepsUptoRow.holds Try.pinned (OpenSpec.upto tapeKeepsSpec)

end Rows
end Go.Proofs.Ytcgamaponeglhaa
