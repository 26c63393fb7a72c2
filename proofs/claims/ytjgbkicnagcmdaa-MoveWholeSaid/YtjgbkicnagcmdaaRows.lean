/-
  No cell of these rows narrows 'for every input' (looked for: loops, veiled, ifaces, maps, wideKeys, modest, calm, conditions, laid).
  DERIVED. THE GIVEN ROWS OF THIS SEAT. 12 by the template 'for every input the law returns true; each argument reads behind the call as it read before'; 0 by the template 'total and deterministic' (their statements: YtjgbkicnagcmdaaTotals.lean).
  GIVEN WITH THE SEED: the statements are not yours to turn. If you find one false, say at which input.
  Laid BY PROGRAM, IN A SANDBOX (cutbox-rows.mjs): the forced cells as the released guide's own fill.sh prints them over the translation 00d0e45d53e84ce0… (all of the seat's roots in one cut). By AI agents, Wed Nov 11 2026. No macro, syntax, notation, axiom, sorry.
-/
import Derived.Test.YtjgbkicnagcmdaaChecked
import GoSem.Claim
import GoSem.ClaimJoined
import GoSem.ClaimMapViews
import Derived.JoinedTies
import Derived.KernelRfl
namespace Go.Proofs.Ytjgbkicnagcmdaa
/- THE CELL 'sum', in the pinned program and in every row, IS THE sha256 OF THE DUMP (.gsa) THAT YtjgbkicnagcmdaaProg.lean LOADS. Nothing in Lean hashes anything: it is a label: what it is worth is what the hold of that sum in a sandbox is worth. -/
noncomputable def Try.pinned : Pinned := { name := "ytjgbkicnagcmdaa", sum := "00d0e45d53e84ce0f888dbf025fbbb5053e885a120723a78838c12185737104b", checked := Try.checked }
namespace Rows
def none {H : Type} : Left H := { results := [], args := [] }

/-- 'berthshiftkeep.ServeSame': WHATEVER THE INPUT: true; the input reads as it did. -/
def serveSameSpec : ChangeSpec := { name := "serveSame", fn := fun _ => fun
  | [d1, d2, d3, d4, d5] => { results := [.lit (.bool true)], args := [d1, d2, d3, d4, d5] }
  | _ => none }
def serveSameRow : OpenClaim := { program := "ytjgbkicnagcmdaa", sum := "00d0e45d53e84ce0f888dbf025fbbb5053e885a120723a78838c12185737104b", func := "berthshift/berthshiftkeep.ServeSame", spec := "serveSame", unfollowed := true, recurses := true, apart := false }
def ServeSameSaid : Prop := serveSameRow.holds Try.pinned (OpenSpec.ofChange serveSameSpec)

/-- ITS FALSE NEIGHBOUR: 'it returns false'. Refute it at one input. -/
def serveSameWrong : ChangeSpec := { name := "serveSame", fn := fun _ => fun
  | [d1, d2, d3, d4, d5] => { results := [.lit (.bool false)], args := [d1, d2, d3, d4, d5] }
  | _ => none }
def ServeSameWrongFalsely : Prop := serveSameRow.holds Try.pinned (OpenSpec.ofChange serveSameWrong)

/-- 'berthshiftkeep.GoOnce': WHATEVER THE INPUT: true; the input reads as it did. -/
def goOnceSpec : ChangeSpec := { name := "goOnce", fn := fun _ => fun
  | [d1, d2, d3, d4] => { results := [.lit (.bool true)], args := [d1, d2, d3, d4] }
  | _ => none }
def goOnceRow : OpenClaim := { program := "ytjgbkicnagcmdaa", sum := "00d0e45d53e84ce0f888dbf025fbbb5053e885a120723a78838c12185737104b", func := "berthshift/berthshiftkeep.GoOnce", spec := "goOnce", unfollowed := true, recurses := true, apart := false }
def GoOnceSaid : Prop := goOnceRow.holds Try.pinned (OpenSpec.ofChange goOnceSpec)

/-- ITS FALSE NEIGHBOUR: 'it returns false'. Refute it at one input. -/
def goOnceWrong : ChangeSpec := { name := "goOnce", fn := fun _ => fun
  | [d1, d2, d3, d4] => { results := [.lit (.bool false)], args := [d1, d2, d3, d4] }
  | _ => none }
def GoOnceWrongFalsely : Prop := goOnceRow.holds Try.pinned (OpenSpec.ofChange goOnceWrong)

/-- 'berthshiftkeep.WakeEnds': WHATEVER THE INPUT: true; the input reads as it did. -/
def wakeEndsSpec : ChangeSpec := { name := "wakeEnds", fn := fun _ => fun
  | [d1, d2, d3] => { results := [.lit (.bool true)], args := [d1, d2, d3] }
  | _ => none }
def wakeEndsRow : OpenClaim := { program := "ytjgbkicnagcmdaa", sum := "00d0e45d53e84ce0f888dbf025fbbb5053e885a120723a78838c12185737104b", func := "berthshift/berthshiftkeep.WakeEnds", spec := "wakeEnds", unfollowed := true, recurses := true, apart := false }
def WakeEndsSaid : Prop := wakeEndsRow.holds Try.pinned (OpenSpec.ofChange wakeEndsSpec)

/-- ITS FALSE NEIGHBOUR: 'it returns false'. Refute it at one input. -/
def wakeEndsWrong : ChangeSpec := { name := "wakeEnds", fn := fun _ => fun
  | [d1, d2, d3] => { results := [.lit (.bool false)], args := [d1, d2, d3] }
  | _ => none }
def WakeEndsWrongFalsely : Prop := wakeEndsRow.holds Try.pinned (OpenSpec.ofChange wakeEndsWrong)

/-- 'berthshiftkeep.MoveRounds': WHATEVER THE INPUT: true; the input reads as it did. -/
def moveRoundsSpec : ChangeSpec := { name := "moveRounds", fn := fun _ => fun
  | [d1, d2, d3] => { results := [.lit (.bool true)], args := [d1, d2, d3] }
  | _ => none }
def moveRoundsRow : OpenClaim := { program := "ytjgbkicnagcmdaa", sum := "00d0e45d53e84ce0f888dbf025fbbb5053e885a120723a78838c12185737104b", func := "berthshift/berthshiftkeep.MoveRounds", spec := "moveRounds", unfollowed := true, recurses := true, apart := false }
def MoveRoundsSaid : Prop := moveRoundsRow.holds Try.pinned (OpenSpec.ofChange moveRoundsSpec)

/-- ITS FALSE NEIGHBOUR: 'it returns false'. Refute it at one input. -/
def moveRoundsWrong : ChangeSpec := { name := "moveRounds", fn := fun _ => fun
  | [d1, d2, d3] => { results := [.lit (.bool false)], args := [d1, d2, d3] }
  | _ => none }
def MoveRoundsWrongFalsely : Prop := moveRoundsRow.holds Try.pinned (OpenSpec.ofChange moveRoundsWrong)

/-- 'berthshiftkeep.CaughtStays': WHATEVER THE INPUT: true; the input reads as it did. -/
def caughtStaysSpec : ChangeSpec := { name := "caughtStays", fn := fun _ => fun
  | [d1, d2, d3] => { results := [.lit (.bool true)], args := [d1, d2, d3] }
  | _ => none }
def caughtStaysRow : OpenClaim := { program := "ytjgbkicnagcmdaa", sum := "00d0e45d53e84ce0f888dbf025fbbb5053e885a120723a78838c12185737104b", func := "berthshift/berthshiftkeep.CaughtStays", spec := "caughtStays", unfollowed := true, recurses := true, apart := false }
def CaughtStaysSaid : Prop := caughtStaysRow.holds Try.pinned (OpenSpec.ofChange caughtStaysSpec)

/-- ITS FALSE NEIGHBOUR: 'it returns false'. Refute it at one input. -/
def caughtStaysWrong : ChangeSpec := { name := "caughtStays", fn := fun _ => fun
  | [d1, d2, d3] => { results := [.lit (.bool false)], args := [d1, d2, d3] }
  | _ => none }
def CaughtStaysWrongFalsely : Prop := caughtStaysRow.holds Try.pinned (OpenSpec.ofChange caughtStaysWrong)

/-- 'berthshiftkeep.SealSilent': WHATEVER THE INPUT: true; the input reads as it did. -/
def sealSilentSpec : ChangeSpec := { name := "sealSilent", fn := fun _ => fun
  | [d1, d2, d3, d4] => { results := [.lit (.bool true)], args := [d1, d2, d3, d4] }
  | _ => none }
def sealSilentRow : OpenClaim := { program := "ytjgbkicnagcmdaa", sum := "00d0e45d53e84ce0f888dbf025fbbb5053e885a120723a78838c12185737104b", func := "berthshift/berthshiftkeep.SealSilent", spec := "sealSilent", unfollowed := true, recurses := true, apart := false }
def SealSilentSaid : Prop := sealSilentRow.holds Try.pinned (OpenSpec.ofChange sealSilentSpec)

/-- ITS FALSE NEIGHBOUR: 'it returns false'. Refute it at one input. -/
def sealSilentWrong : ChangeSpec := { name := "sealSilent", fn := fun _ => fun
  | [d1, d2, d3, d4] => { results := [.lit (.bool false)], args := [d1, d2, d3, d4] }
  | _ => none }
def SealSilentWrongFalsely : Prop := sealSilentRow.holds Try.pinned (OpenSpec.ofChange sealSilentWrong)

/-- 'berthshiftkeep.PartJoin': WHATEVER THE INPUT: true; the input reads as it did. -/
def partJoinSpec : ChangeSpec := { name := "partJoin", fn := fun _ => fun
  | [d1, d2, d3] => { results := [.lit (.bool true)], args := [d1, d2, d3] }
  | _ => none }
def partJoinRow : OpenClaim := { program := "ytjgbkicnagcmdaa", sum := "00d0e45d53e84ce0f888dbf025fbbb5053e885a120723a78838c12185737104b", func := "berthshift/berthshiftkeep.PartJoin", spec := "partJoin", unfollowed := true, recurses := true, apart := false }
def PartJoinSaid : Prop := partJoinRow.holds Try.pinned (OpenSpec.ofChange partJoinSpec)

/-- ITS FALSE NEIGHBOUR: 'it returns false'. Refute it at one input. -/
def partJoinWrong : ChangeSpec := { name := "partJoin", fn := fun _ => fun
  | [d1, d2, d3] => { results := [.lit (.bool false)], args := [d1, d2, d3] }
  | _ => none }
def PartJoinWrongFalsely : Prop := partJoinRow.holds Try.pinned (OpenSpec.ofChange partJoinWrong)

/-- 'berthshiftkeep.ImportOver': WHATEVER THE INPUT: true; the input reads as it did. -/
def importOverSpec : ChangeSpec := { name := "importOver", fn := fun _ => fun
  | [d1, d2, d3, d4] => { results := [.lit (.bool true)], args := [d1, d2, d3, d4] }
  | _ => none }
def importOverRow : OpenClaim := { program := "ytjgbkicnagcmdaa", sum := "00d0e45d53e84ce0f888dbf025fbbb5053e885a120723a78838c12185737104b", func := "berthshift/berthshiftkeep.ImportOver", spec := "importOver", unfollowed := true, recurses := true, apart := false }
def ImportOverSaid : Prop := importOverRow.holds Try.pinned (OpenSpec.ofChange importOverSpec)

/-- ITS FALSE NEIGHBOUR: 'it returns false'. Refute it at one input. -/
def importOverWrong : ChangeSpec := { name := "importOver", fn := fun _ => fun
  | [d1, d2, d3, d4] => { results := [.lit (.bool false)], args := [d1, d2, d3, d4] }
  | _ => none }
def ImportOverWrongFalsely : Prop := importOverRow.holds Try.pinned (OpenSpec.ofChange importOverWrong)

/-- 'berthshiftkeep.BeginNewer': WHATEVER THE INPUT: true; the input reads as it did. -/
def beginNewerSpec : ChangeSpec := { name := "beginNewer", fn := fun _ => fun
  | [d1, d2, d3] => { results := [.lit (.bool true)], args := [d1, d2, d3] }
  | _ => none }
def beginNewerRow : OpenClaim := { program := "ytjgbkicnagcmdaa", sum := "00d0e45d53e84ce0f888dbf025fbbb5053e885a120723a78838c12185737104b", func := "berthshift/berthshiftkeep.BeginNewer", spec := "beginNewer", unfollowed := true, recurses := true, apart := false }
def BeginNewerSaid : Prop := beginNewerRow.holds Try.pinned (OpenSpec.ofChange beginNewerSpec)

/-- ITS FALSE NEIGHBOUR: 'it returns false'. Refute it at one input. -/
def beginNewerWrong : ChangeSpec := { name := "beginNewer", fn := fun _ => fun
  | [d1, d2, d3] => { results := [.lit (.bool false)], args := [d1, d2, d3] }
  | _ => none }
def BeginNewerWrongFalsely : Prop := beginNewerRow.holds Try.pinned (OpenSpec.ofChange beginNewerWrong)

/-- 'berthshiftkeep.ImportLast': WHATEVER THE INPUT: true; the input reads as it did. -/
def importLastSpec : ChangeSpec := { name := "importLast", fn := fun _ => fun
  | [d1, d2, d3] => { results := [.lit (.bool true)], args := [d1, d2, d3] }
  | _ => none }
def importLastRow : OpenClaim := { program := "ytjgbkicnagcmdaa", sum := "00d0e45d53e84ce0f888dbf025fbbb5053e885a120723a78838c12185737104b", func := "berthshift/berthshiftkeep.ImportLast", spec := "importLast", unfollowed := true, recurses := true, apart := false }
def ImportLastSaid : Prop := importLastRow.holds Try.pinned (OpenSpec.ofChange importLastSpec)

/-- ITS FALSE NEIGHBOUR: 'it returns false'. Refute it at one input. -/
def importLastWrong : ChangeSpec := { name := "importLast", fn := fun _ => fun
  | [d1, d2, d3] => { results := [.lit (.bool false)], args := [d1, d2, d3] }
  | _ => none }
def ImportLastWrongFalsely : Prop := importLastRow.holds Try.pinned (OpenSpec.ofChange importLastWrong)

/-- 'berthshiftkeep.ForgetLater': WHATEVER THE INPUT: true; the input reads as it did. -/
def forgetLaterSpec : ChangeSpec := { name := "forgetLater", fn := fun _ => fun
  | [d1, d2, d3] => { results := [.lit (.bool true)], args := [d1, d2, d3] }
  | _ => none }
def forgetLaterRow : OpenClaim := { program := "ytjgbkicnagcmdaa", sum := "00d0e45d53e84ce0f888dbf025fbbb5053e885a120723a78838c12185737104b", func := "berthshift/berthshiftkeep.ForgetLater", spec := "forgetLater", unfollowed := true, recurses := true, apart := false }
def ForgetLaterSaid : Prop := forgetLaterRow.holds Try.pinned (OpenSpec.ofChange forgetLaterSpec)

/-- ITS FALSE NEIGHBOUR: 'it returns false'. Refute it at one input. -/
def forgetLaterWrong : ChangeSpec := { name := "forgetLater", fn := fun _ => fun
  | [d1, d2, d3] => { results := [.lit (.bool false)], args := [d1, d2, d3] }
  | _ => none }
def ForgetLaterWrongFalsely : Prop := forgetLaterRow.holds Try.pinned (OpenSpec.ofChange forgetLaterWrong)

/-- 'berthshiftkeep.MoveWhole': WHATEVER THE INPUT: true; the input reads as it did. -/
def moveWholeSpec : ChangeSpec := { name := "moveWhole", fn := fun _ => fun
  | [d1, d2, d3, d4] => { results := [.lit (.bool true)], args := [d1, d2, d3, d4] }
  | _ => none }
def moveWholeRow : OpenClaim := { program := "ytjgbkicnagcmdaa", sum := "00d0e45d53e84ce0f888dbf025fbbb5053e885a120723a78838c12185737104b", func := "berthshift/berthshiftkeep.MoveWhole", spec := "moveWhole", unfollowed := true, recurses := true, apart := false }
def MoveWholeSaid : Prop := moveWholeRow.holds Try.pinned (OpenSpec.ofChange moveWholeSpec)

/-- ITS FALSE NEIGHBOUR: 'it returns false'. Refute it at one input. -/
def moveWholeWrong : ChangeSpec := { name := "moveWhole", fn := fun _ => fun
  | [d1, d2, d3, d4] => { results := [.lit (.bool false)], args := [d1, d2, d3, d4] }
  | _ => none }
def MoveWholeWrongFalsely : Prop := moveWholeRow.holds Try.pinned (OpenSpec.ofChange moveWholeWrong)

/- THE SECOND FORM. 'bulk': how many values and letters a reading holds, each counted each time it is reached (what is shared counts as often as it is met; a slice's spare places count too). A statement '..UptoSaid' is the law's where the arguments, and the package variables that the reading takes, are together of bulk at most 1048576: NARROWER than '..Said'. Prove '..Said' where nothing that the law and all that it calls make is longer than what came in: it says more and counts as full. Else prove '..UptoSaid'. A law counts once. -/
mutual
def uptoBulk {H : Type} : DataW H → Nat
  | .lit (.string bytes) => bytes.length + 1
  | .lit _ => 1
  | .nil => 1
  | .ptr d => uptoBulk d + 1
  | .slice elems spare => uptoBulkAll elems + uptoBulkAll spare + 1
  | .agg parts => uptoBulkAll parts + 1
  | .iface _ d => uptoBulk d + 1
  | .map entries => uptoBulkEntries entries + 1
  | .held _ => 1
def uptoBulkAll {H : Type} : List (DataW H) → Nat
  | [] => 0
  | d :: r => uptoBulk d + uptoBulkAll r
def uptoBulkEntries {H : Type} : List (Lit × DataW H) → Nat
  | [] => 0
  | x :: r => uptoBulkEntry x + uptoBulkEntries r
def uptoBulkEntry {H : Type} : Lit × DataW H → Nat
  | (.string bytes, d) => bytes.length + uptoBulk d + 1
  | (_, d) => uptoBulk d + 1
 end
def uptoSmall : (H : Type) → List (DataW H) → Bool := fun _ ds => decide (uptoBulkAll ds ≤ 1048576)
def OpenSpec.upto (s : _root_.Go.ChangeSpec) : _root_.Go.OpenSpec := { _root_.Go.OpenSpec.ofChange s with cond := some uptoSmall }

/-- 'berthshiftkeep.ServeSame', WHERE WHAT IT READS IS OF BULK AT MOST 1048576: true; the input reads as it did. -/
def serveSameUptoRow : OpenClaim := { program := "ytjgbkicnagcmdaa", sum := "00d0e45d53e84ce0f888dbf025fbbb5053e885a120723a78838c12185737104b", func := "berthshift/berthshiftkeep.ServeSame", spec := "serveSame", unfollowed := true, recurses := true, apart := false, narrowed := true }
def ServeSameUptoSaid : Prop := serveSameUptoRow.holds Try.pinned (OpenSpec.upto serveSameSpec)

/-- 'berthshiftkeep.GoOnce', WHERE WHAT IT READS IS OF BULK AT MOST 1048576: true; the input reads as it did. -/
def goOnceUptoRow : OpenClaim := { program := "ytjgbkicnagcmdaa", sum := "00d0e45d53e84ce0f888dbf025fbbb5053e885a120723a78838c12185737104b", func := "berthshift/berthshiftkeep.GoOnce", spec := "goOnce", unfollowed := true, recurses := true, apart := false, narrowed := true }
def GoOnceUptoSaid : Prop := goOnceUptoRow.holds Try.pinned (OpenSpec.upto goOnceSpec)

/-- 'berthshiftkeep.WakeEnds', WHERE WHAT IT READS IS OF BULK AT MOST 1048576: true; the input reads as it did. -/
def wakeEndsUptoRow : OpenClaim := { program := "ytjgbkicnagcmdaa", sum := "00d0e45d53e84ce0f888dbf025fbbb5053e885a120723a78838c12185737104b", func := "berthshift/berthshiftkeep.WakeEnds", spec := "wakeEnds", unfollowed := true, recurses := true, apart := false, narrowed := true }
def WakeEndsUptoSaid : Prop := wakeEndsUptoRow.holds Try.pinned (OpenSpec.upto wakeEndsSpec)

/-- 'berthshiftkeep.MoveRounds', WHERE WHAT IT READS IS OF BULK AT MOST 1048576: true; the input reads as it did. -/
def moveRoundsUptoRow : OpenClaim := { program := "ytjgbkicnagcmdaa", sum := "00d0e45d53e84ce0f888dbf025fbbb5053e885a120723a78838c12185737104b", func := "berthshift/berthshiftkeep.MoveRounds", spec := "moveRounds", unfollowed := true, recurses := true, apart := false, narrowed := true }
def MoveRoundsUptoSaid : Prop := moveRoundsUptoRow.holds Try.pinned (OpenSpec.upto moveRoundsSpec)

/-- 'berthshiftkeep.CaughtStays', WHERE WHAT IT READS IS OF BULK AT MOST 1048576: true; the input reads as it did. -/
def caughtStaysUptoRow : OpenClaim := { program := "ytjgbkicnagcmdaa", sum := "00d0e45d53e84ce0f888dbf025fbbb5053e885a120723a78838c12185737104b", func := "berthshift/berthshiftkeep.CaughtStays", spec := "caughtStays", unfollowed := true, recurses := true, apart := false, narrowed := true }
def CaughtStaysUptoSaid : Prop := caughtStaysUptoRow.holds Try.pinned (OpenSpec.upto caughtStaysSpec)

/-- 'berthshiftkeep.SealSilent', WHERE WHAT IT READS IS OF BULK AT MOST 1048576: true; the input reads as it did. -/
def sealSilentUptoRow : OpenClaim := { program := "ytjgbkicnagcmdaa", sum := "00d0e45d53e84ce0f888dbf025fbbb5053e885a120723a78838c12185737104b", func := "berthshift/berthshiftkeep.SealSilent", spec := "sealSilent", unfollowed := true, recurses := true, apart := false, narrowed := true }
def SealSilentUptoSaid : Prop := sealSilentUptoRow.holds Try.pinned (OpenSpec.upto sealSilentSpec)

/-- 'berthshiftkeep.PartJoin', WHERE WHAT IT READS IS OF BULK AT MOST 1048576: true; the input reads as it did. -/
def partJoinUptoRow : OpenClaim := { program := "ytjgbkicnagcmdaa", sum := "00d0e45d53e84ce0f888dbf025fbbb5053e885a120723a78838c12185737104b", func := "berthshift/berthshiftkeep.PartJoin", spec := "partJoin", unfollowed := true, recurses := true, apart := false, narrowed := true }
def PartJoinUptoSaid : Prop := partJoinUptoRow.holds Try.pinned (OpenSpec.upto partJoinSpec)

/-- 'berthshiftkeep.ImportOver', WHERE WHAT IT READS IS OF BULK AT MOST 1048576: true; the input reads as it did. -/
def importOverUptoRow : OpenClaim := { program := "ytjgbkicnagcmdaa", sum := "00d0e45d53e84ce0f888dbf025fbbb5053e885a120723a78838c12185737104b", func := "berthshift/berthshiftkeep.ImportOver", spec := "importOver", unfollowed := true, recurses := true, apart := false, narrowed := true }
def ImportOverUptoSaid : Prop := importOverUptoRow.holds Try.pinned (OpenSpec.upto importOverSpec)

/-- 'berthshiftkeep.BeginNewer', WHERE WHAT IT READS IS OF BULK AT MOST 1048576: true; the input reads as it did. -/
def beginNewerUptoRow : OpenClaim := { program := "ytjgbkicnagcmdaa", sum := "00d0e45d53e84ce0f888dbf025fbbb5053e885a120723a78838c12185737104b", func := "berthshift/berthshiftkeep.BeginNewer", spec := "beginNewer", unfollowed := true, recurses := true, apart := false, narrowed := true }
def BeginNewerUptoSaid : Prop := beginNewerUptoRow.holds Try.pinned (OpenSpec.upto beginNewerSpec)

/-- 'berthshiftkeep.ImportLast', WHERE WHAT IT READS IS OF BULK AT MOST 1048576: true; the input reads as it did. -/
def importLastUptoRow : OpenClaim := { program := "ytjgbkicnagcmdaa", sum := "00d0e45d53e84ce0f888dbf025fbbb5053e885a120723a78838c12185737104b", func := "berthshift/berthshiftkeep.ImportLast", spec := "importLast", unfollowed := true, recurses := true, apart := false, narrowed := true }
def ImportLastUptoSaid : Prop := importLastUptoRow.holds Try.pinned (OpenSpec.upto importLastSpec)

/-- 'berthshiftkeep.ForgetLater', WHERE WHAT IT READS IS OF BULK AT MOST 1048576: true; the input reads as it did. -/
def forgetLaterUptoRow : OpenClaim := { program := "ytjgbkicnagcmdaa", sum := "00d0e45d53e84ce0f888dbf025fbbb5053e885a120723a78838c12185737104b", func := "berthshift/berthshiftkeep.ForgetLater", spec := "forgetLater", unfollowed := true, recurses := true, apart := false, narrowed := true }
def ForgetLaterUptoSaid : Prop := forgetLaterUptoRow.holds Try.pinned (OpenSpec.upto forgetLaterSpec)

/-- 'berthshiftkeep.MoveWhole', WHERE WHAT IT READS IS OF BULK AT MOST 1048576: true; the input reads as it did. -/
def moveWholeUptoRow : OpenClaim := { program := "ytjgbkicnagcmdaa", sum := "00d0e45d53e84ce0f888dbf025fbbb5053e885a120723a78838c12185737104b", func := "berthshift/berthshiftkeep.MoveWhole", spec := "moveWhole", unfollowed := true, recurses := true, apart := false, narrowed := true }
def MoveWholeUptoSaid : Prop := moveWholeUptoRow.holds Try.pinned (OpenSpec.upto moveWholeSpec)

end Rows
end Go.Proofs.Ytjgbkicnagcmdaa
