/-
  No cell of these rows narrows 'for every input' (looked for: loops, veiled, ifaces, maps, wideKeys, modest, calm, conditions, laid).
  DERIVED. THE GIVEN ROWS OF THIS SEAT. 6 by the template 'for every input the law returns true; each argument reads behind the call as it read before'; 0 by the template 'total and deterministic' (their statements: YtcbpgmpbjcknbaaTotals.lean).
  GIVEN WITH THE SEED: the statements are not yours to turn. If you find one false, say at which input.
  Laid BY PROGRAM, IN A SANDBOX (cutbox-rows.mjs): the forced cells as the released guide's own fill.sh prints them over the translation cae4eb009092b7a9… (all of the seat's roots in one cut). By AI agents, Wed Nov 11 2026. No macro, syntax, notation, axiom, sorry.
-/
import Derived.Test.YtcbpgmpbjcknbaaChecked
import GoSem.Claim
import GoSem.ClaimJoined
import GoSem.ClaimMapViews
import Derived.JoinedTies
import Derived.KernelRfl
namespace Go.Proofs.Ytcbpgmpbjcknbaa
/- THE CELL 'sum', in the pinned program and in every row, IS THE sha256 OF THE DUMP (.gsa) THAT YtcbpgmpbjcknbaaProg.lean LOADS. Nothing in Lean hashes anything: it is a label: what it is worth is what the hold of that sum in a sandbox is worth. -/
noncomputable def Try.pinned : Pinned := { name := "ytcbpgmpbjcknbaa", sum := "cae4eb009092b7a9cd2801dece01bfc5e44d08115eed11e629313e43a9f56222", checked := Try.checked }
namespace Rows
def none {H : Type} : Left H := { results := [], args := [] }

/-- 'berthshiftkeep.PlanLess': WHATEVER THE INPUT: true; the input reads as it did. -/
def planLessSpec : ChangeSpec := { name := "planLess", fn := fun _ => fun
  | [d1, d2, d3] => { results := [.lit (.bool true)], args := [d1, d2, d3] }
  | _ => none }
def planLessRow : OpenClaim := { program := "ytcbpgmpbjcknbaa", sum := "cae4eb009092b7a9cd2801dece01bfc5e44d08115eed11e629313e43a9f56222", func := "berthshift/berthshiftkeep.PlanLess", spec := "planLess", apart := false }
def PlanLessSaid : Prop := planLessRow.holds Try.pinned (OpenSpec.ofChange planLessSpec)

/-- ITS FALSE NEIGHBOUR: 'it returns false'. Refute it at one input. -/
def planLessWrong : ChangeSpec := { name := "planLess", fn := fun _ => fun
  | [d1, d2, d3] => { results := [.lit (.bool false)], args := [d1, d2, d3] }
  | _ => none }
def PlanLessWrongFalsely : Prop := planLessRow.holds Try.pinned (OpenSpec.ofChange planLessWrong)

/-- 'berthshiftkeep.PlanMore': WHATEVER THE INPUT: true; the input reads as it did. -/
def planMoreSpec : ChangeSpec := { name := "planMore", fn := fun _ => fun
  | [d1, d2, d3, d4] => { results := [.lit (.bool true)], args := [d1, d2, d3, d4] }
  | _ => none }
def planMoreRow : OpenClaim := { program := "ytcbpgmpbjcknbaa", sum := "cae4eb009092b7a9cd2801dece01bfc5e44d08115eed11e629313e43a9f56222", func := "berthshift/berthshiftkeep.PlanMore", spec := "planMore", apart := false }
def PlanMoreSaid : Prop := planMoreRow.holds Try.pinned (OpenSpec.ofChange planMoreSpec)

/-- ITS FALSE NEIGHBOUR: 'it returns false'. Refute it at one input. -/
def planMoreWrong : ChangeSpec := { name := "planMore", fn := fun _ => fun
  | [d1, d2, d3, d4] => { results := [.lit (.bool false)], args := [d1, d2, d3, d4] }
  | _ => none }
def PlanMoreWrongFalsely : Prop := planMoreRow.holds Try.pinned (OpenSpec.ofChange planMoreWrong)

/-- 'berthshiftkeep.PlanCalm': WHATEVER THE INPUT: true; the input reads as it did. -/
def planCalmSpec : ChangeSpec := { name := "planCalm", fn := fun _ => fun
  | [d1, d2, d3] => { results := [.lit (.bool true)], args := [d1, d2, d3] }
  | _ => none }
def planCalmRow : OpenClaim := { program := "ytcbpgmpbjcknbaa", sum := "cae4eb009092b7a9cd2801dece01bfc5e44d08115eed11e629313e43a9f56222", func := "berthshift/berthshiftkeep.PlanCalm", spec := "planCalm", apart := false }
def PlanCalmSaid : Prop := planCalmRow.holds Try.pinned (OpenSpec.ofChange planCalmSpec)

/-- ITS FALSE NEIGHBOUR: 'it returns false'. Refute it at one input. -/
def planCalmWrong : ChangeSpec := { name := "planCalm", fn := fun _ => fun
  | [d1, d2, d3] => { results := [.lit (.bool false)], args := [d1, d2, d3] }
  | _ => none }
def PlanCalmWrongFalsely : Prop := planCalmRow.holds Try.pinned (OpenSpec.ofChange planCalmWrong)

/-- 'berthshiftkeep.ClientLearnt': WHATEVER THE INPUT: true; the input reads as it did. -/
def clientLearntSpec : ChangeSpec := { name := "clientLearnt", fn := fun _ => fun
  | [d] => { results := [.lit (.bool true)], args := [d] }
  | _ => none }
def clientLearntRow : OpenClaim := { program := "ytcbpgmpbjcknbaa", sum := "cae4eb009092b7a9cd2801dece01bfc5e44d08115eed11e629313e43a9f56222", func := "berthshift/berthshiftkeep.ClientLearnt", spec := "clientLearnt", apart := false }
def ClientLearntSaid : Prop := clientLearntRow.holds Try.pinned (OpenSpec.ofChange clientLearntSpec)

/-- ITS FALSE NEIGHBOUR: 'it returns false'. Refute it at one input. -/
def clientLearntWrong : ChangeSpec := { name := "clientLearnt", fn := fun _ => fun
  | [d] => { results := [.lit (.bool false)], args := [d] }
  | _ => none }
def ClientLearntWrongFalsely : Prop := clientLearntRow.holds Try.pinned (OpenSpec.ofChange clientLearntWrong)

/-- 'berthshiftkeep.ClientWaits': WHATEVER THE INPUT: true; the input reads as it did. -/
def clientWaitsSpec : ChangeSpec := { name := "clientWaits", fn := fun _ => fun
  | [d1, d2, d3] => { results := [.lit (.bool true)], args := [d1, d2, d3] }
  | _ => none }
def clientWaitsRow : OpenClaim := { program := "ytcbpgmpbjcknbaa", sum := "cae4eb009092b7a9cd2801dece01bfc5e44d08115eed11e629313e43a9f56222", func := "berthshift/berthshiftkeep.ClientWaits", spec := "clientWaits", unfollowed := true, recurses := true, apart := false }
def ClientWaitsSaid : Prop := clientWaitsRow.holds Try.pinned (OpenSpec.ofChange clientWaitsSpec)

/-- ITS FALSE NEIGHBOUR: 'it returns false'. Refute it at one input. -/
def clientWaitsWrong : ChangeSpec := { name := "clientWaits", fn := fun _ => fun
  | [d1, d2, d3] => { results := [.lit (.bool false)], args := [d1, d2, d3] }
  | _ => none }
def ClientWaitsWrongFalsely : Prop := clientWaitsRow.holds Try.pinned (OpenSpec.ofChange clientWaitsWrong)

/-- 'berthshiftkeep.ClientIds': WHATEVER THE INPUT: true; the input reads as it did. -/
def clientIdsSpec : ChangeSpec := { name := "clientIds", fn := fun _ => fun
  | [d1, d2] => { results := [.lit (.bool true)], args := [d1, d2] }
  | _ => none }
def clientIdsRow : OpenClaim := { program := "ytcbpgmpbjcknbaa", sum := "cae4eb009092b7a9cd2801dece01bfc5e44d08115eed11e629313e43a9f56222", func := "berthshift/berthshiftkeep.ClientIds", spec := "clientIds", unfollowed := true, recurses := true, apart := false }
def ClientIdsSaid : Prop := clientIdsRow.holds Try.pinned (OpenSpec.ofChange clientIdsSpec)

/-- ITS FALSE NEIGHBOUR: 'it returns false'. Refute it at one input. -/
def clientIdsWrong : ChangeSpec := { name := "clientIds", fn := fun _ => fun
  | [d1, d2] => { results := [.lit (.bool false)], args := [d1, d2] }
  | _ => none }
def ClientIdsWrongFalsely : Prop := clientIdsRow.holds Try.pinned (OpenSpec.ofChange clientIdsWrong)

/- THE SECOND FORM. 'bulk': how many values and letters a reading holds, each counted each time it is reached (what is shared counts as often as it is met; a slice's spare places count too). A statement '..UptoSaid' is the law's where the arguments, and the package variables that the reading takes, are together of bulk at most 1048576: NARROWER than '..Said'. Prove '..Said' where nothing that the law and all that it calls make is longer than what came in: it says more and counts as full. Else prove '..UptoSaid'. A law counts once. -/
mutual
def uptoBulk {H : Type} : DataW H → Nat
  | .lit (.string bytes) => bytes.length + 1
  | .lit _ => 1
  | .nil => 1
  | .ptr d => uptoBulk d + 1
  | .slice elems spare => uptoBulkAll elems + uptoBulkAll spare + 1
  | .agg parts => uptoBulkAll parts + 1
  | .iface _ d => uptoBulk d + 1
  | .map entries => uptoBulkEntries entries + 1
  | .held _ => 1
def uptoBulkAll {H : Type} : List (DataW H) → Nat
  | [] => 0
  | d :: r => uptoBulk d + uptoBulkAll r
def uptoBulkEntries {H : Type} : List (Lit × DataW H) → Nat
  | [] => 0
  | x :: r => uptoBulkEntry x + uptoBulkEntries r
def uptoBulkEntry {H : Type} : Lit × DataW H → Nat
  | (.string bytes, d) => bytes.length + uptoBulk d + 1
  | (_, d) => uptoBulk d + 1
 end
def uptoSmall : (H : Type) → List (DataW H) → Bool := fun _ ds => decide (uptoBulkAll ds ≤ 1048576)
def OpenSpec.upto (s : _root_.Go.ChangeSpec) : _root_.Go.OpenSpec := { _root_.Go.OpenSpec.ofChange s with cond := some uptoSmall }

/-- 'berthshiftkeep.PlanLess', WHERE WHAT IT READS IS OF BULK AT MOST 1048576: true; the input reads as it did. -/
def planLessUptoRow : OpenClaim := { program := "ytcbpgmpbjcknbaa", sum := "cae4eb009092b7a9cd2801dece01bfc5e44d08115eed11e629313e43a9f56222", func := "berthshift/berthshiftkeep.PlanLess", spec := "planLess", apart := false, narrowed := true }
def PlanLessUptoSaid : Prop := planLessUptoRow.holds Try.pinned (OpenSpec.upto planLessSpec)

/-- 'berthshiftkeep.PlanMore', WHERE WHAT IT READS IS OF BULK AT MOST 1048576: true; the input reads as it did. -/
def planMoreUptoRow : OpenClaim := { program := "ytcbpgmpbjcknbaa", sum := "cae4eb009092b7a9cd2801dece01bfc5e44d08115eed11e629313e43a9f56222", func := "berthshift/berthshiftkeep.PlanMore", spec := "planMore", apart := false, narrowed := true }
def PlanMoreUptoSaid : Prop := planMoreUptoRow.holds Try.pinned (OpenSpec.upto planMoreSpec)

/-- 'berthshiftkeep.PlanCalm', WHERE WHAT IT READS IS OF BULK AT MOST 1048576: true; the input reads as it did. -/
def planCalmUptoRow : OpenClaim := { program := "ytcbpgmpbjcknbaa", sum := "cae4eb009092b7a9cd2801dece01bfc5e44d08115eed11e629313e43a9f56222", func := "berthshift/berthshiftkeep.PlanCalm", spec := "planCalm", apart := false, narrowed := true }
def PlanCalmUptoSaid : Prop := planCalmUptoRow.holds Try.pinned (OpenSpec.upto planCalmSpec)

/-- 'berthshiftkeep.ClientLearnt', WHERE WHAT IT READS IS OF BULK AT MOST 1048576: true; the input reads as it did. -/
def clientLearntUptoRow : OpenClaim := { program := "ytcbpgmpbjcknbaa", sum := "cae4eb009092b7a9cd2801dece01bfc5e44d08115eed11e629313e43a9f56222", func := "berthshift/berthshiftkeep.ClientLearnt", spec := "clientLearnt", apart := false, narrowed := true }
def ClientLearntUptoSaid : Prop := clientLearntUptoRow.holds Try.pinned (OpenSpec.upto clientLearntSpec)

/-- 'berthshiftkeep.ClientWaits', WHERE WHAT IT READS IS OF BULK AT MOST 1048576: true; the input reads as it did. -/
def clientWaitsUptoRow : OpenClaim := { program := "ytcbpgmpbjcknbaa", sum := "cae4eb009092b7a9cd2801dece01bfc5e44d08115eed11e629313e43a9f56222", func := "berthshift/berthshiftkeep.ClientWaits", spec := "clientWaits", unfollowed := true, recurses := true, apart := false, narrowed := true }
def ClientWaitsUptoSaid : Prop := clientWaitsUptoRow.holds Try.pinned (OpenSpec.upto clientWaitsSpec)

/-- 'berthshiftkeep.ClientIds', WHERE WHAT IT READS IS OF BULK AT MOST 1048576: true; the input reads as it did. -/
def clientIdsUptoRow : OpenClaim := { program := "ytcbpgmpbjcknbaa", sum := "cae4eb009092b7a9cd2801dece01bfc5e44d08115eed11e629313e43a9f56222", func := "berthshift/berthshiftkeep.ClientIds", spec := "clientIds", unfollowed := true, recurses := true, apart := false, narrowed := true }
def ClientIdsUptoSaid : Prop := clientIdsUptoRow.holds Try.pinned (OpenSpec.upto clientIdsSpec)

end Rows
end Go.Proofs.Ytcbpgmpbjcknbaa
