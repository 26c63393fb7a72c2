/- Closed facts on the types that queues are made of. -/
import Derived.Test.YtkolmpeghnkjkaaProg
import Derived.Test.YtkolmpeghnkjkaaSt
namespace Go.Proofs.Ytkolmpeghnkjkaa
open Go.RowKit

theorem row_Queue : (match Try.prog.underlying 30 with | some (.struct _) | some (.array _ _) => true | _ => false) = true := by kernel_rfl
theorem row_Answer : (match Try.prog.underlying 47 with | some (.struct _) | some (.array _ _) => true | _ => false) = true := by kernel_rfl
theorem row_Event : (match Try.prog.underlying 45 with | some (.struct _) | some (.array _ _) => true | _ => false) = true := by kernel_rfl
theorem row_Deed : (match Try.prog.underlying 38 with | some (.struct _) | some (.array _ _) => true | _ => false) = true := by kernel_rfl
theorem sc_int : (match Try.prog.underlying 3 with | some (.struct _) | some (.array _ _) | none => true | _ => false) = false := by kernel_rfl
theorem s1_int : (Try.prog.info? 3).map (·.size) = some 1 := by kernel_rfl
theorem sc_bool : (match Try.prog.underlying 4 with | some (.struct _) | some (.array _ _) | none => true | _ => false) = false := by kernel_rfl
theorem s1_bool : (Try.prog.info? 4).map (·.size) = some 1 := by kernel_rfl
theorem sc_Errno : (match Try.prog.underlying 40 with | some (.struct _) | some (.array _ _) | none => true | _ => false) = false := by kernel_rfl
theorem s1_Errno : (Try.prog.info? 40).map (·.size) = some 1 := by kernel_rfl
theorem sc_Msgs : (match Try.prog.underlying 23 with | some (.struct _) | some (.array _ _) | none => true | _ => false) = false := by kernel_rfl
theorem s1_Msgs : (Try.prog.info? 23).map (·.size) = some 1 := by kernel_rfl
theorem sc_Lss : (match Try.prog.underlying 24 with | some (.struct _) | some (.array _ _) | none => true | _ => false) = false := by kernel_rfl
theorem s1_Lss : (Try.prog.info? 24).map (·.size) = some 1 := by kernel_rfl
theorem sc_Evs : (match Try.prog.underlying 31 with | some (.struct _) | some (.array _ _) | none => true | _ => false) = false := by kernel_rfl
theorem s1_Evs : (Try.prog.info? 31).map (·.size) = some 1 := by kernel_rfl
theorem sc_Anss : (match Try.prog.underlying 32 with | some (.struct _) | some (.array _ _) | none => true | _ => false) = false := by kernel_rfl
theorem s1_Anss : (Try.prog.info? 32).map (·.size) = some 1 := by kernel_rfl

end Go.Proofs.Ytkolmpeghnkjkaa
