/-
  No cell of these rows narrows 'for every input' (looked for: loops, veiled, ifaces, maps, wideKeys, modest, calm, conditions, laid).
  DERIVED. THE GIVEN ROWS OF THIS SEAT. 6 by the template 'for every input the law returns true; each argument reads behind the call as it read before'; 0 by the template 'total and deterministic' (their statements: YtjmncbfmjeeneaaTotals.lean).
  GIVEN WITH THE SEED: the statements are not yours to turn. If you find one false, say at which input.
  Laid BY PROGRAM, IN A SANDBOX (cutbox-rows.mjs): the forced cells as the released guide's own fill.sh prints them over the translation f7419c15396e71c0… (all of the seat's roots in one cut). By AI agents, Wed Nov 11 2026. No macro, syntax, notation, axiom, sorry.
-/
import Derived.Test.YtjmncbfmjeeneaaChecked
import GoSem.Claim
import GoSem.ClaimJoined
import GoSem.ClaimMapViews
import Derived.JoinedTies
import Derived.KernelRfl
namespace Go.Proofs.Ytjmncbfmjeeneaa
/- THE CELL 'sum', in the pinned program and in every row, IS THE sha256 OF THE DUMP (.gsa) THAT YtjmncbfmjeeneaaProg.lean LOADS. Nothing in Lean hashes anything: it is a label: what it is worth is what the hold of that sum in a sandbox is worth. -/
noncomputable def Try.pinned : Pinned := { name := "ytjmncbfmjeeneaa", sum := "f7419c15396e71c06379d8373a5fb68d288b3dc9edfd55b7f320f928aff8a83a", checked := Try.checked }
namespace Rows
def none {H : Type} : Left H := { results := [], args := [] }

/-- 'berthshiftkeep.ClientSafe': WHATEVER THE INPUT: true; the input reads as it did. -/
def clientSafeSpec : ChangeSpec := { name := "clientSafe", fn := fun _ => fun
  | [d] => { results := [.lit (.bool true)], args := [d] }
  | _ => none }
def clientSafeRow : OpenClaim := { program := "ytjmncbfmjeeneaa", sum := "f7419c15396e71c06379d8373a5fb68d288b3dc9edfd55b7f320f928aff8a83a", func := "berthshift/berthshiftkeep.ClientSafe", spec := "clientSafe", unfollowed := true, recurses := true, apart := false }
def ClientSafeSaid : Prop := clientSafeRow.holds Try.pinned (OpenSpec.ofChange clientSafeSpec)

/-- ITS FALSE NEIGHBOUR: 'it returns false'. Refute it at one input. -/
def clientSafeWrong : ChangeSpec := { name := "clientSafe", fn := fun _ => fun
  | [d] => { results := [.lit (.bool false)], args := [d] }
  | _ => none }
def ClientSafeWrongFalsely : Prop := clientSafeRow.holds Try.pinned (OpenSpec.ofChange clientSafeWrong)

/-- 'berthshiftkeep.RebuildCut': WHATEVER THE INPUT: true; the input reads as it did. -/
def rebuildCutSpec : ChangeSpec := { name := "rebuildCut", fn := fun _ => fun
  | [d1, d2, d3] => { results := [.lit (.bool true)], args := [d1, d2, d3] }
  | _ => none }
def rebuildCutRow : OpenClaim := { program := "ytjmncbfmjeeneaa", sum := "f7419c15396e71c06379d8373a5fb68d288b3dc9edfd55b7f320f928aff8a83a", func := "berthshift/berthshiftkeep.RebuildCut", spec := "rebuildCut", unfollowed := true, recurses := true, apart := false }
def RebuildCutSaid : Prop := rebuildCutRow.holds Try.pinned (OpenSpec.ofChange rebuildCutSpec)

/-- ITS FALSE NEIGHBOUR: 'it returns false'. Refute it at one input. -/
def rebuildCutWrong : ChangeSpec := { name := "rebuildCut", fn := fun _ => fun
  | [d1, d2, d3] => { results := [.lit (.bool false)], args := [d1, d2, d3] }
  | _ => none }
def RebuildCutWrongFalsely : Prop := rebuildCutRow.holds Try.pinned (OpenSpec.ofChange rebuildCutWrong)

/-- 'berthshiftkeep.RebuildMixed': WHATEVER THE INPUT: true; the input reads as it did. -/
def rebuildMixedSpec : ChangeSpec := { name := "rebuildMixed", fn := fun _ => fun
  | [d1, d2, d3] => { results := [.lit (.bool true)], args := [d1, d2, d3] }
  | _ => none }
def rebuildMixedRow : OpenClaim := { program := "ytjmncbfmjeeneaa", sum := "f7419c15396e71c06379d8373a5fb68d288b3dc9edfd55b7f320f928aff8a83a", func := "berthshift/berthshiftkeep.RebuildMixed", spec := "rebuildMixed", unfollowed := true, recurses := true, apart := false }
def RebuildMixedSaid : Prop := rebuildMixedRow.holds Try.pinned (OpenSpec.ofChange rebuildMixedSpec)

/-- ITS FALSE NEIGHBOUR: 'it returns false'. Refute it at one input. -/
def rebuildMixedWrong : ChangeSpec := { name := "rebuildMixed", fn := fun _ => fun
  | [d1, d2, d3] => { results := [.lit (.bool false)], args := [d1, d2, d3] }
  | _ => none }
def RebuildMixedWrongFalsely : Prop := rebuildMixedRow.holds Try.pinned (OpenSpec.ofChange rebuildMixedWrong)

/-- 'berthshiftkeep.RebuildBack': WHATEVER THE INPUT: true; the input reads as it did. -/
def rebuildBackSpec : ChangeSpec := { name := "rebuildBack", fn := fun _ => fun
  | [d1, d2, d3, d4] => { results := [.lit (.bool true)], args := [d1, d2, d3, d4] }
  | _ => none }
def rebuildBackRow : OpenClaim := { program := "ytjmncbfmjeeneaa", sum := "f7419c15396e71c06379d8373a5fb68d288b3dc9edfd55b7f320f928aff8a83a", func := "berthshift/berthshiftkeep.RebuildBack", spec := "rebuildBack", unfollowed := true, recurses := true, apart := false }
def RebuildBackSaid : Prop := rebuildBackRow.holds Try.pinned (OpenSpec.ofChange rebuildBackSpec)

/-- ITS FALSE NEIGHBOUR: 'it returns false'. Refute it at one input. -/
def rebuildBackWrong : ChangeSpec := { name := "rebuildBack", fn := fun _ => fun
  | [d1, d2, d3, d4] => { results := [.lit (.bool false)], args := [d1, d2, d3, d4] }
  | _ => none }
def RebuildBackWrongFalsely : Prop := rebuildBackRow.holds Try.pinned (OpenSpec.ofChange rebuildBackWrong)

/-- 'berthshiftkeep.RebuildOnce': WHATEVER THE INPUT: true; the input reads as it did. -/
def rebuildOnceSpec : ChangeSpec := { name := "rebuildOnce", fn := fun _ => fun
  | [d1, d2, d3] => { results := [.lit (.bool true)], args := [d1, d2, d3] }
  | _ => none }
def rebuildOnceRow : OpenClaim := { program := "ytjmncbfmjeeneaa", sum := "f7419c15396e71c06379d8373a5fb68d288b3dc9edfd55b7f320f928aff8a83a", func := "berthshift/berthshiftkeep.RebuildOnce", spec := "rebuildOnce", unfollowed := true, recurses := true, apart := false }
def RebuildOnceSaid : Prop := rebuildOnceRow.holds Try.pinned (OpenSpec.ofChange rebuildOnceSpec)

/-- ITS FALSE NEIGHBOUR: 'it returns false'. Refute it at one input. -/
def rebuildOnceWrong : ChangeSpec := { name := "rebuildOnce", fn := fun _ => fun
  | [d1, d2, d3] => { results := [.lit (.bool false)], args := [d1, d2, d3] }
  | _ => none }
def RebuildOnceWrongFalsely : Prop := rebuildOnceRow.holds Try.pinned (OpenSpec.ofChange rebuildOnceWrong)

/-- 'berthshiftkeep.RebuildMove': WHATEVER THE INPUT: true; the input reads as it did. -/
def rebuildMoveSpec : ChangeSpec := { name := "rebuildMove", fn := fun _ => fun
  | [d1, d2, d3, d4] => { results := [.lit (.bool true)], args := [d1, d2, d3, d4] }
  | _ => none }
def rebuildMoveRow : OpenClaim := { program := "ytjmncbfmjeeneaa", sum := "f7419c15396e71c06379d8373a5fb68d288b3dc9edfd55b7f320f928aff8a83a", func := "berthshift/berthshiftkeep.RebuildMove", spec := "rebuildMove", unfollowed := true, recurses := true, apart := false }
def RebuildMoveSaid : Prop := rebuildMoveRow.holds Try.pinned (OpenSpec.ofChange rebuildMoveSpec)

/-- ITS FALSE NEIGHBOUR: 'it returns false'. Refute it at one input. -/
def rebuildMoveWrong : ChangeSpec := { name := "rebuildMove", fn := fun _ => fun
  | [d1, d2, d3, d4] => { results := [.lit (.bool false)], args := [d1, d2, d3, d4] }
  | _ => none }
def RebuildMoveWrongFalsely : Prop := rebuildMoveRow.holds Try.pinned (OpenSpec.ofChange rebuildMoveWrong)

/- THE SECOND FORM. 'bulk': how many values and letters a reading holds, each counted each time it is reached (what is shared counts as often as it is met; a slice's spare places count too). A statement '..UptoSaid' is the law's where the arguments, and the package variables that the reading takes, are together of bulk at most 1048576: NARROWER than '..Said'. Prove '..Said' where nothing that the law and all that it calls make is longer than what came in: it says more and counts as full. Else prove '..UptoSaid'. A law counts once. -/
mutual
def uptoBulk {H : Type} : DataW H → Nat
  | .lit (.string bytes) => bytes.length + 1
  | .lit _ => 1
  | .nil => 1
  | .ptr d => uptoBulk d + 1
  | .slice elems spare => uptoBulkAll elems + uptoBulkAll spare + 1
  | .agg parts => uptoBulkAll parts + 1
  | .iface _ d => uptoBulk d + 1
  | .map entries => uptoBulkEntries entries + 1
  | .held _ => 1
def uptoBulkAll {H : Type} : List (DataW H) → Nat
  | [] => 0
  | d :: r => uptoBulk d + uptoBulkAll r
def uptoBulkEntries {H : Type} : List (Lit × DataW H) → Nat
  | [] => 0
  | x :: r => uptoBulkEntry x + uptoBulkEntries r
def uptoBulkEntry {H : Type} : Lit × DataW H → Nat
  | (.string bytes, d) => bytes.length + uptoBulk d + 1
  | (_, d) => uptoBulk d + 1
 end
def uptoSmall : (H : Type) → List (DataW H) → Bool := fun _ ds => decide (uptoBulkAll ds ≤ 1048576)
def OpenSpec.upto (s : _root_.Go.ChangeSpec) : _root_.Go.OpenSpec := { _root_.Go.OpenSpec.ofChange s with cond := some uptoSmall }

/-- 'berthshiftkeep.ClientSafe', WHERE WHAT IT READS IS OF BULK AT MOST 1048576: true; the input reads as it did. -/
def clientSafeUptoRow : OpenClaim := { program := "ytjmncbfmjeeneaa", sum := "f7419c15396e71c06379d8373a5fb68d288b3dc9edfd55b7f320f928aff8a83a", func := "berthshift/berthshiftkeep.ClientSafe", spec := "clientSafe", unfollowed := true, recurses := true, apart := false, narrowed := true }
def ClientSafeUptoSaid : Prop := clientSafeUptoRow.holds Try.pinned (OpenSpec.upto clientSafeSpec)

/-- 'berthshiftkeep.RebuildCut', WHERE WHAT IT READS IS OF BULK AT MOST 1048576: true; the input reads as it did. -/
def rebuildCutUptoRow : OpenClaim := { program := "ytjmncbfmjeeneaa", sum := "f7419c15396e71c06379d8373a5fb68d288b3dc9edfd55b7f320f928aff8a83a", func := "berthshift/berthshiftkeep.RebuildCut", spec := "rebuildCut", unfollowed := true, recurses := true, apart := false, narrowed := true }
def RebuildCutUptoSaid : Prop := rebuildCutUptoRow.holds Try.pinned (OpenSpec.upto rebuildCutSpec)

/-- 'berthshiftkeep.RebuildMixed', WHERE WHAT IT READS IS OF BULK AT MOST 1048576: true; the input reads as it did. -/
def rebuildMixedUptoRow : OpenClaim := { program := "ytjmncbfmjeeneaa", sum := "f7419c15396e71c06379d8373a5fb68d288b3dc9edfd55b7f320f928aff8a83a", func := "berthshift/berthshiftkeep.RebuildMixed", spec := "rebuildMixed", unfollowed := true, recurses := true, apart := false, narrowed := true }
def RebuildMixedUptoSaid : Prop := rebuildMixedUptoRow.holds Try.pinned (OpenSpec.upto rebuildMixedSpec)

/-- 'berthshiftkeep.RebuildBack', WHERE WHAT IT READS IS OF BULK AT MOST 1048576: true; the input reads as it did. -/
def rebuildBackUptoRow : OpenClaim := { program := "ytjmncbfmjeeneaa", sum := "f7419c15396e71c06379d8373a5fb68d288b3dc9edfd55b7f320f928aff8a83a", func := "berthshift/berthshiftkeep.RebuildBack", spec := "rebuildBack", unfollowed := true, recurses := true, apart := false, narrowed := true }
def RebuildBackUptoSaid : Prop := rebuildBackUptoRow.holds Try.pinned (OpenSpec.upto rebuildBackSpec)

/-- 'berthshiftkeep.RebuildOnce', WHERE WHAT IT READS IS OF BULK AT MOST 1048576: true; the input reads as it did. -/
def rebuildOnceUptoRow : OpenClaim := { program := "ytjmncbfmjeeneaa", sum := "f7419c15396e71c06379d8373a5fb68d288b3dc9edfd55b7f320f928aff8a83a", func := "berthshift/berthshiftkeep.RebuildOnce", spec := "rebuildOnce", unfollowed := true, recurses := true, apart := false, narrowed := true }
def RebuildOnceUptoSaid : Prop := rebuildOnceUptoRow.holds Try.pinned (OpenSpec.upto rebuildOnceSpec)

/-- 'berthshiftkeep.RebuildMove', WHERE WHAT IT READS IS OF BULK AT MOST 1048576: true; the input reads as it did. -/
def rebuildMoveUptoRow : OpenClaim := { program := "ytjmncbfmjeeneaa", sum := "f7419c15396e71c06379d8373a5fb68d288b3dc9edfd55b7f320f928aff8a83a", func := "berthshift/berthshiftkeep.RebuildMove", spec := "rebuildMove", unfollowed := true, recurses := true, apart := false, narrowed := true }
def RebuildMoveUptoSaid : Prop := rebuildMoveUptoRow.holds Try.pinned (OpenSpec.upto rebuildMoveSpec)

end Rows
end Go.Proofs.Ytjmncbfmjeeneaa
