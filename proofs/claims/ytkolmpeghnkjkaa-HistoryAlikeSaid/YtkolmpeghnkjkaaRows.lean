/-
  No cell of these rows narrows 'for every input' (looked for: loops, veiled, ifaces, maps, wideKeys, modest, calm, conditions, laid).
  DERIVED. THE GIVEN ROWS OF THIS SEAT. 12 by the template 'for every input the law returns true; each argument reads behind the call as it read before'; 0 by the template 'total and deterministic' (their statements: YtkolmpeghnkjkaaTotals.lean).
  GIVEN WITH THE SEED: the statements are not yours to turn. If you find one false, say at which input.
  Laid BY PROGRAM, IN A SANDBOX (cutbox-rows.mjs): the forced cells as the released guide's own fill.sh prints them over the translation 1a9be26b572fb4a7… (all of the seat's roots in one cut). By AI agents, Wed Nov 11 2026. No macro, syntax, notation, axiom, sorry.
-/
import Derived.Test.YtkolmpeghnkjkaaChecked
import GoSem.Claim
import GoSem.ClaimJoined
import GoSem.ClaimMapViews
import Derived.JoinedTies
import Derived.KernelRfl
namespace Go.Proofs.Ytkolmpeghnkjkaa
/- THE CELL 'sum', in the pinned program and in every row, IS THE sha256 OF THE DUMP (.gsa) THAT YtkolmpeghnkjkaaProg.lean LOADS. Nothing in Lean hashes anything: it is a label: what it is worth is what the hold of that sum in a sandbox is worth. -/
noncomputable def Try.pinned : Pinned := { name := "ytkolmpeghnkjkaa", sum := "1a9be26b572fb4a74be2138d17d97fb44c902829ed1728dfc134d91bd707c15a", checked := Try.checked }
namespace Rows
def none {H : Type} : Left H := { results := [], args := [] }

/-- 'berthshiftkeep.QueueKeeps': WHATEVER THE INPUT: true; the input reads as it did. -/
def queueKeepsSpec : ChangeSpec := { name := "queueKeeps", fn := fun _ => fun
  | [d] => { results := [.lit (.bool true)], args := [d] }
  | _ => none }
def queueKeepsRow : OpenClaim := { program := "ytkolmpeghnkjkaa", sum := "1a9be26b572fb4a74be2138d17d97fb44c902829ed1728dfc134d91bd707c15a", func := "berthshift/berthshiftkeep.QueueKeeps", spec := "queueKeeps", unfollowed := true, recurses := true, apart := false }
def QueueKeepsSaid : Prop := queueKeepsRow.holds Try.pinned (OpenSpec.ofChange queueKeepsSpec)

/-- ITS FALSE NEIGHBOUR: 'it returns false'. Refute it at one input. -/
def queueKeepsWrong : ChangeSpec := { name := "queueKeeps", fn := fun _ => fun
  | [d] => { results := [.lit (.bool false)], args := [d] }
  | _ => none }
def QueueKeepsWrongFalsely : Prop := queueKeepsRow.holds Try.pinned (OpenSpec.ofChange queueKeepsWrong)

/-- 'berthshiftkeep.QueueOnce': WHATEVER THE INPUT: true; the input reads as it did. -/
def queueOnceSpec : ChangeSpec := { name := "queueOnce", fn := fun _ => fun
  | [d1, d2, d3] => { results := [.lit (.bool true)], args := [d1, d2, d3] }
  | _ => none }
def queueOnceRow : OpenClaim := { program := "ytkolmpeghnkjkaa", sum := "1a9be26b572fb4a74be2138d17d97fb44c902829ed1728dfc134d91bd707c15a", func := "berthshift/berthshiftkeep.QueueOnce", spec := "queueOnce", unfollowed := true, recurses := true, apart := false }
def QueueOnceSaid : Prop := queueOnceRow.holds Try.pinned (OpenSpec.ofChange queueOnceSpec)

/-- ITS FALSE NEIGHBOUR: 'it returns false'. Refute it at one input. -/
def queueOnceWrong : ChangeSpec := { name := "queueOnce", fn := fun _ => fun
  | [d1, d2, d3] => { results := [.lit (.bool false)], args := [d1, d2, d3] }
  | _ => none }
def QueueOnceWrongFalsely : Prop := queueOnceRow.holds Try.pinned (OpenSpec.ofChange queueOnceWrong)

/-- 'berthshiftkeep.QueueOrder': WHATEVER THE INPUT: true; the input reads as it did. -/
def queueOrderSpec : ChangeSpec := { name := "queueOrder", fn := fun _ => fun
  | [d] => { results := [.lit (.bool true)], args := [d] }
  | _ => none }
def queueOrderRow : OpenClaim := { program := "ytkolmpeghnkjkaa", sum := "1a9be26b572fb4a74be2138d17d97fb44c902829ed1728dfc134d91bd707c15a", func := "berthshift/berthshiftkeep.QueueOrder", spec := "queueOrder", unfollowed := true, recurses := true, apart := false }
def QueueOrderSaid : Prop := queueOrderRow.holds Try.pinned (OpenSpec.ofChange queueOrderSpec)

/-- ITS FALSE NEIGHBOUR: 'it returns false'. Refute it at one input. -/
def queueOrderWrong : ChangeSpec := { name := "queueOrder", fn := fun _ => fun
  | [d] => { results := [.lit (.bool false)], args := [d] }
  | _ => none }
def QueueOrderWrongFalsely : Prop := queueOrderRow.holds Try.pinned (OpenSpec.ofChange queueOrderWrong)

/-- 'berthshiftkeep.QueueStale': WHATEVER THE INPUT: true; the input reads as it did. -/
def queueStaleSpec : ChangeSpec := { name := "queueStale", fn := fun _ => fun
  | [d] => { results := [.lit (.bool true)], args := [d] }
  | _ => none }
def queueStaleRow : OpenClaim := { program := "ytkolmpeghnkjkaa", sum := "1a9be26b572fb4a74be2138d17d97fb44c902829ed1728dfc134d91bd707c15a", func := "berthshift/berthshiftkeep.QueueStale", spec := "queueStale", unfollowed := true, recurses := true, apart := false }
def QueueStaleSaid : Prop := queueStaleRow.holds Try.pinned (OpenSpec.ofChange queueStaleSpec)

/-- ITS FALSE NEIGHBOUR: 'it returns false'. Refute it at one input. -/
def queueStaleWrong : ChangeSpec := { name := "queueStale", fn := fun _ => fun
  | [d] => { results := [.lit (.bool false)], args := [d] }
  | _ => none }
def QueueStaleWrongFalsely : Prop := queueStaleRow.holds Try.pinned (OpenSpec.ofChange queueStaleWrong)

/-- 'berthshiftkeep.QueueAcked': WHATEVER THE INPUT: true; the input reads as it did. -/
def queueAckedSpec : ChangeSpec := { name := "queueAcked", fn := fun _ => fun
  | [d1, d2] => { results := [.lit (.bool true)], args := [d1, d2] }
  | _ => none }
def queueAckedRow : OpenClaim := { program := "ytkolmpeghnkjkaa", sum := "1a9be26b572fb4a74be2138d17d97fb44c902829ed1728dfc134d91bd707c15a", func := "berthshift/berthshiftkeep.QueueAcked", spec := "queueAcked", unfollowed := true, recurses := true, apart := false }
def QueueAckedSaid : Prop := queueAckedRow.holds Try.pinned (OpenSpec.ofChange queueAckedSpec)

/-- ITS FALSE NEIGHBOUR: 'it returns false'. Refute it at one input. -/
def queueAckedWrong : ChangeSpec := { name := "queueAcked", fn := fun _ => fun
  | [d1, d2] => { results := [.lit (.bool false)], args := [d1, d2] }
  | _ => none }
def QueueAckedWrongFalsely : Prop := queueAckedRow.holds Try.pinned (OpenSpec.ofChange queueAckedWrong)

/-- 'berthshiftkeep.QueueApart': WHATEVER THE INPUT: true; the input reads as it did. -/
def queueApartSpec : ChangeSpec := { name := "queueApart", fn := fun _ => fun
  | [d1, d2] => { results := [.lit (.bool true)], args := [d1, d2] }
  | _ => none }
def queueApartRow : OpenClaim := { program := "ytkolmpeghnkjkaa", sum := "1a9be26b572fb4a74be2138d17d97fb44c902829ed1728dfc134d91bd707c15a", func := "berthshift/berthshiftkeep.QueueApart", spec := "queueApart", unfollowed := true, recurses := true, apart := false }
def QueueApartSaid : Prop := queueApartRow.holds Try.pinned (OpenSpec.ofChange queueApartSpec)

/-- ITS FALSE NEIGHBOUR: 'it returns false'. Refute it at one input. -/
def queueApartWrong : ChangeSpec := { name := "queueApart", fn := fun _ => fun
  | [d1, d2] => { results := [.lit (.bool false)], args := [d1, d2] }
  | _ => none }
def QueueApartWrongFalsely : Prop := queueApartRow.holds Try.pinned (OpenSpec.ofChange queueApartWrong)

/-- 'berthshiftkeep.QueueEmpty': WHATEVER THE INPUT: true; the input reads as it did. -/
def queueEmptySpec : ChangeSpec := { name := "queueEmpty", fn := fun _ => fun
  | [d] => { results := [.lit (.bool true)], args := [d] }
  | _ => none }
def queueEmptyRow : OpenClaim := { program := "ytkolmpeghnkjkaa", sum := "1a9be26b572fb4a74be2138d17d97fb44c902829ed1728dfc134d91bd707c15a", func := "berthshift/berthshiftkeep.QueueEmpty", spec := "queueEmpty", unfollowed := true, recurses := true, apart := false }
def QueueEmptySaid : Prop := queueEmptyRow.holds Try.pinned (OpenSpec.ofChange queueEmptySpec)

/-- ITS FALSE NEIGHBOUR: 'it returns false'. Refute it at one input. -/
def queueEmptyWrong : ChangeSpec := { name := "queueEmpty", fn := fun _ => fun
  | [d] => { results := [.lit (.bool false)], args := [d] }
  | _ => none }
def QueueEmptyWrongFalsely : Prop := queueEmptyRow.holds Try.pinned (OpenSpec.ofChange queueEmptyWrong)

/-- 'berthshiftkeep.HistoryAlike': WHATEVER THE INPUT: true; the input reads as it did. -/
def historyAlikeSpec : ChangeSpec := { name := "historyAlike", fn := fun _ => fun
  | [d1, d2, d3] => { results := [.lit (.bool true)], args := [d1, d2, d3] }
  | _ => none }
def historyAlikeRow : OpenClaim := { program := "ytkolmpeghnkjkaa", sum := "1a9be26b572fb4a74be2138d17d97fb44c902829ed1728dfc134d91bd707c15a", func := "berthshift/berthshiftkeep.HistoryAlike", spec := "historyAlike", unfollowed := true, recurses := true, apart := false }
def HistoryAlikeSaid : Prop := historyAlikeRow.holds Try.pinned (OpenSpec.ofChange historyAlikeSpec)

/-- ITS FALSE NEIGHBOUR: 'it returns false'. Refute it at one input. -/
def historyAlikeWrong : ChangeSpec := { name := "historyAlike", fn := fun _ => fun
  | [d1, d2, d3] => { results := [.lit (.bool false)], args := [d1, d2, d3] }
  | _ => none }
def HistoryAlikeWrongFalsely : Prop := historyAlikeRow.holds Try.pinned (OpenSpec.ofChange historyAlikeWrong)

/-- 'berthshiftkeep.HistoryCut': WHATEVER THE INPUT: true; the input reads as it did. -/
def historyCutSpec : ChangeSpec := { name := "historyCut", fn := fun _ => fun
  | [d1, d2] => { results := [.lit (.bool true)], args := [d1, d2] }
  | _ => none }
def historyCutRow : OpenClaim := { program := "ytkolmpeghnkjkaa", sum := "1a9be26b572fb4a74be2138d17d97fb44c902829ed1728dfc134d91bd707c15a", func := "berthshift/berthshiftkeep.HistoryCut", spec := "historyCut", unfollowed := true, recurses := true, apart := false }
def HistoryCutSaid : Prop := historyCutRow.holds Try.pinned (OpenSpec.ofChange historyCutSpec)

/-- ITS FALSE NEIGHBOUR: 'it returns false'. Refute it at one input. -/
def historyCutWrong : ChangeSpec := { name := "historyCut", fn := fun _ => fun
  | [d1, d2] => { results := [.lit (.bool false)], args := [d1, d2] }
  | _ => none }
def HistoryCutWrongFalsely : Prop := historyCutRow.holds Try.pinned (OpenSpec.ofChange historyCutWrong)

/-- 'berthshiftkeep.HistoryOn': WHATEVER THE INPUT: true; the input reads as it did. -/
def historyOnSpec : ChangeSpec := { name := "historyOn", fn := fun _ => fun
  | [d1, d2] => { results := [.lit (.bool true)], args := [d1, d2] }
  | _ => none }
def historyOnRow : OpenClaim := { program := "ytkolmpeghnkjkaa", sum := "1a9be26b572fb4a74be2138d17d97fb44c902829ed1728dfc134d91bd707c15a", func := "berthshift/berthshiftkeep.HistoryOn", spec := "historyOn", unfollowed := true, recurses := true, apart := false }
def HistoryOnSaid : Prop := historyOnRow.holds Try.pinned (OpenSpec.ofChange historyOnSpec)

/-- ITS FALSE NEIGHBOUR: 'it returns false'. Refute it at one input. -/
def historyOnWrong : ChangeSpec := { name := "historyOn", fn := fun _ => fun
  | [d1, d2] => { results := [.lit (.bool false)], args := [d1, d2] }
  | _ => none }
def HistoryOnWrongFalsely : Prop := historyOnRow.holds Try.pinned (OpenSpec.ofChange historyOnWrong)

/-- 'berthshiftkeep.HistoryBreak': WHATEVER THE INPUT: true; the input reads as it did. -/
def historyBreakSpec : ChangeSpec := { name := "historyBreak", fn := fun _ => fun
  | [d1, d2] => { results := [.lit (.bool true)], args := [d1, d2] }
  | _ => none }
def historyBreakRow : OpenClaim := { program := "ytkolmpeghnkjkaa", sum := "1a9be26b572fb4a74be2138d17d97fb44c902829ed1728dfc134d91bd707c15a", func := "berthshift/berthshiftkeep.HistoryBreak", spec := "historyBreak", unfollowed := true, recurses := true, apart := false }
def HistoryBreakSaid : Prop := historyBreakRow.holds Try.pinned (OpenSpec.ofChange historyBreakSpec)

/-- ITS FALSE NEIGHBOUR: 'it returns false'. Refute it at one input. -/
def historyBreakWrong : ChangeSpec := { name := "historyBreak", fn := fun _ => fun
  | [d1, d2] => { results := [.lit (.bool false)], args := [d1, d2] }
  | _ => none }
def HistoryBreakWrongFalsely : Prop := historyBreakRow.holds Try.pinned (OpenSpec.ofChange historyBreakWrong)

/-- 'berthshiftkeep.HistoryTells': WHATEVER THE INPUT: true; the input reads as it did. -/
def historyTellsSpec : ChangeSpec := { name := "historyTells", fn := fun _ => fun
  | [d] => { results := [.lit (.bool true)], args := [d] }
  | _ => none }
def historyTellsRow : OpenClaim := { program := "ytkolmpeghnkjkaa", sum := "1a9be26b572fb4a74be2138d17d97fb44c902829ed1728dfc134d91bd707c15a", func := "berthshift/berthshiftkeep.HistoryTells", spec := "historyTells", unfollowed := true, recurses := true, apart := false }
def HistoryTellsSaid : Prop := historyTellsRow.holds Try.pinned (OpenSpec.ofChange historyTellsSpec)

/-- ITS FALSE NEIGHBOUR: 'it returns false'. Refute it at one input. -/
def historyTellsWrong : ChangeSpec := { name := "historyTells", fn := fun _ => fun
  | [d] => { results := [.lit (.bool false)], args := [d] }
  | _ => none }
def HistoryTellsWrongFalsely : Prop := historyTellsRow.holds Try.pinned (OpenSpec.ofChange historyTellsWrong)

/- THE SECOND FORM. 'bulk': how many values and letters a reading holds, each counted each time it is reached (what is shared counts as often as it is met; a slice's spare places count too). A statement '..UptoSaid' is the law's where the arguments, and the package variables that the reading takes, are together of bulk at most 1048576: NARROWER than '..Said'. Prove '..Said' where nothing that the law and all that it calls make is longer than what came in: it says more and counts as full. Else prove '..UptoSaid'. A law counts once. -/
mutual
def uptoBulk {H : Type} : DataW H → Nat
  | .lit (.string bytes) => bytes.length + 1
  | .lit _ => 1
  | .nil => 1
  | .ptr d => uptoBulk d + 1
  | .slice elems spare => uptoBulkAll elems + uptoBulkAll spare + 1
  | .agg parts => uptoBulkAll parts + 1
  | .iface _ d => uptoBulk d + 1
  | .map entries => uptoBulkEntries entries + 1
  | .held _ => 1
def uptoBulkAll {H : Type} : List (DataW H) → Nat
  | [] => 0
  | d :: r => uptoBulk d + uptoBulkAll r
def uptoBulkEntries {H : Type} : List (Lit × DataW H) → Nat
  | [] => 0
  | x :: r => uptoBulkEntry x + uptoBulkEntries r
def uptoBulkEntry {H : Type} : Lit × DataW H → Nat
  | (.string bytes, d) => bytes.length + uptoBulk d + 1
  | (_, d) => uptoBulk d + 1
 end
def uptoSmall : (H : Type) → List (DataW H) → Bool := fun _ ds => decide (uptoBulkAll ds ≤ 1048576)
def OpenSpec.upto (s : _root_.Go.ChangeSpec) : _root_.Go.OpenSpec := { _root_.Go.OpenSpec.ofChange s with cond := some uptoSmall }

/-- 'berthshiftkeep.QueueKeeps', WHERE WHAT IT READS IS OF BULK AT MOST 1048576: true; the input reads as it did. -/
def queueKeepsUptoRow : OpenClaim := { program := "ytkolmpeghnkjkaa", sum := "1a9be26b572fb4a74be2138d17d97fb44c902829ed1728dfc134d91bd707c15a", func := "berthshift/berthshiftkeep.QueueKeeps", spec := "queueKeeps", unfollowed := true, recurses := true, apart := false, narrowed := true }
def QueueKeepsUptoSaid : Prop := queueKeepsUptoRow.holds Try.pinned (OpenSpec.upto queueKeepsSpec)

/-- 'berthshiftkeep.QueueOnce', WHERE WHAT IT READS IS OF BULK AT MOST 1048576: true; the input reads as it did. -/
def queueOnceUptoRow : OpenClaim := { program := "ytkolmpeghnkjkaa", sum := "1a9be26b572fb4a74be2138d17d97fb44c902829ed1728dfc134d91bd707c15a", func := "berthshift/berthshiftkeep.QueueOnce", spec := "queueOnce", unfollowed := true, recurses := true, apart := false, narrowed := true }
def QueueOnceUptoSaid : Prop := queueOnceUptoRow.holds Try.pinned (OpenSpec.upto queueOnceSpec)

/-- 'berthshiftkeep.QueueOrder', WHERE WHAT IT READS IS OF BULK AT MOST 1048576: true; the input reads as it did. -/
def queueOrderUptoRow : OpenClaim := { program := "ytkolmpeghnkjkaa", sum := "1a9be26b572fb4a74be2138d17d97fb44c902829ed1728dfc134d91bd707c15a", func := "berthshift/berthshiftkeep.QueueOrder", spec := "queueOrder", unfollowed := true, recurses := true, apart := false, narrowed := true }
def QueueOrderUptoSaid : Prop := queueOrderUptoRow.holds Try.pinned (OpenSpec.upto queueOrderSpec)

/-- 'berthshiftkeep.QueueStale', WHERE WHAT IT READS IS OF BULK AT MOST 1048576: true; the input reads as it did. -/
def queueStaleUptoRow : OpenClaim := { program := "ytkolmpeghnkjkaa", sum := "1a9be26b572fb4a74be2138d17d97fb44c902829ed1728dfc134d91bd707c15a", func := "berthshift/berthshiftkeep.QueueStale", spec := "queueStale", unfollowed := true, recurses := true, apart := false, narrowed := true }
def QueueStaleUptoSaid : Prop := queueStaleUptoRow.holds Try.pinned (OpenSpec.upto queueStaleSpec)

/-- 'berthshiftkeep.QueueAcked', WHERE WHAT IT READS IS OF BULK AT MOST 1048576: true; the input reads as it did. -/
def queueAckedUptoRow : OpenClaim := { program := "ytkolmpeghnkjkaa", sum := "1a9be26b572fb4a74be2138d17d97fb44c902829ed1728dfc134d91bd707c15a", func := "berthshift/berthshiftkeep.QueueAcked", spec := "queueAcked", unfollowed := true, recurses := true, apart := false, narrowed := true }
def QueueAckedUptoSaid : Prop := queueAckedUptoRow.holds Try.pinned (OpenSpec.upto queueAckedSpec)

/-- 'berthshiftkeep.QueueApart', WHERE WHAT IT READS IS OF BULK AT MOST 1048576: true; the input reads as it did. -/
def queueApartUptoRow : OpenClaim := { program := "ytkolmpeghnkjkaa", sum := "1a9be26b572fb4a74be2138d17d97fb44c902829ed1728dfc134d91bd707c15a", func := "berthshift/berthshiftkeep.QueueApart", spec := "queueApart", unfollowed := true, recurses := true, apart := false, narrowed := true }
def QueueApartUptoSaid : Prop := queueApartUptoRow.holds Try.pinned (OpenSpec.upto queueApartSpec)

/-- 'berthshiftkeep.QueueEmpty', WHERE WHAT IT READS IS OF BULK AT MOST 1048576: true; the input reads as it did. -/
def queueEmptyUptoRow : OpenClaim := { program := "ytkolmpeghnkjkaa", sum := "1a9be26b572fb4a74be2138d17d97fb44c902829ed1728dfc134d91bd707c15a", func := "berthshift/berthshiftkeep.QueueEmpty", spec := "queueEmpty", unfollowed := true, recurses := true, apart := false, narrowed := true }
def QueueEmptyUptoSaid : Prop := queueEmptyUptoRow.holds Try.pinned (OpenSpec.upto queueEmptySpec)

/-- 'berthshiftkeep.HistoryAlike', WHERE WHAT IT READS IS OF BULK AT MOST 1048576: true; the input reads as it did. -/
def historyAlikeUptoRow : OpenClaim := { program := "ytkolmpeghnkjkaa", sum := "1a9be26b572fb4a74be2138d17d97fb44c902829ed1728dfc134d91bd707c15a", func := "berthshift/berthshiftkeep.HistoryAlike", spec := "historyAlike", unfollowed := true, recurses := true, apart := false, narrowed := true }
def HistoryAlikeUptoSaid : Prop := historyAlikeUptoRow.holds Try.pinned (OpenSpec.upto historyAlikeSpec)

/-- 'berthshiftkeep.HistoryCut', WHERE WHAT IT READS IS OF BULK AT MOST 1048576: true; the input reads as it did. -/
def historyCutUptoRow : OpenClaim := { program := "ytkolmpeghnkjkaa", sum := "1a9be26b572fb4a74be2138d17d97fb44c902829ed1728dfc134d91bd707c15a", func := "berthshift/berthshiftkeep.HistoryCut", spec := "historyCut", unfollowed := true, recurses := true, apart := false, narrowed := true }
def HistoryCutUptoSaid : Prop := historyCutUptoRow.holds Try.pinned (OpenSpec.upto historyCutSpec)

/-- 'berthshiftkeep.HistoryOn', WHERE WHAT IT READS IS OF BULK AT MOST 1048576: true; the input reads as it did. -/
def historyOnUptoRow : OpenClaim := { program := "ytkolmpeghnkjkaa", sum := "1a9be26b572fb4a74be2138d17d97fb44c902829ed1728dfc134d91bd707c15a", func := "berthshift/berthshiftkeep.HistoryOn", spec := "historyOn", unfollowed := true, recurses := true, apart := false, narrowed := true }
def HistoryOnUptoSaid : Prop := historyOnUptoRow.holds Try.pinned (OpenSpec.upto historyOnSpec)

/-- 'berthshiftkeep.HistoryBreak', WHERE WHAT IT READS IS OF BULK AT MOST 1048576: true; the input reads as it did. -/
def historyBreakUptoRow : OpenClaim := { program := "ytkolmpeghnkjkaa", sum := "1a9be26b572fb4a74be2138d17d97fb44c902829ed1728dfc134d91bd707c15a", func := "berthshift/berthshiftkeep.HistoryBreak", spec := "historyBreak", unfollowed := true, recurses := true, apart := false, narrowed := true }
def HistoryBreakUptoSaid : Prop := historyBreakUptoRow.holds Try.pinned (OpenSpec.upto historyBreakSpec)

/-- 'berthshiftkeep.HistoryTells', WHERE WHAT IT READS IS OF BULK AT MOST 1048576: true; the input reads as it did. -/
def historyTellsUptoRow : OpenClaim := { program := "ytkolmpeghnkjkaa", sum := "1a9be26b572fb4a74be2138d17d97fb44c902829ed1728dfc134d91bd707c15a", func := "berthshift/berthshiftkeep.HistoryTells", spec := "historyTells", unfollowed := true, recurses := true, apart := false, narrowed := true }
def HistoryTellsUptoSaid : Prop := historyTellsUptoRow.holds Try.pinned (OpenSpec.upto historyTellsSpec)

end Rows
end Go.Proofs.Ytkolmpeghnkjkaa
