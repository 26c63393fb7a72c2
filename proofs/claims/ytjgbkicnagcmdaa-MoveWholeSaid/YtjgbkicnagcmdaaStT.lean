/- Closed facts on the types that queues are made of. -/
import Derived.Test.YtjgbkicnagcmdaaProg
import Derived.Test.YtjgbkicnagcmdaaSt
namespace Go.Proofs.Ytjgbkicnagcmdaa
open Go.RowKit

theorem row_Queue : (match Try.prog.underlying 46 with | some (.struct _) | some (.array _ _) => true | _ => false) = true := by kernel_rfl
theorem row_Answer : (match Try.prog.underlying 50 with | some (.struct _) | some (.array _ _) => true | _ => false) = true := by kernel_rfl
theorem row_Event : (match Try.prog.underlying 37 with | some (.struct _) | some (.array _ _) => true | _ => false) = true := by kernel_rfl
theorem row_Deed : (match Try.prog.underlying 24 with | some (.struct _) | some (.array _ _) => true | _ => false) = true := by kernel_rfl
theorem sc_int : (match Try.prog.underlying 3 with | some (.struct _) | some (.array _ _) | none => true | _ => false) = false := by kernel_rfl
theorem s1_int : (Try.prog.info? 3).map (·.size) = some 1 := by kernel_rfl
theorem sc_bool : (match Try.prog.underlying 4 with | some (.struct _) | some (.array _ _) | none => true | _ => false) = false := by kernel_rfl
theorem s1_bool : (Try.prog.info? 4).map (·.size) = some 1 := by kernel_rfl
theorem sc_Errno : (match Try.prog.underlying 30 with | some (.struct _) | some (.array _ _) | none => true | _ => false) = false := by kernel_rfl
theorem s1_Errno : (Try.prog.info? 30).map (·.size) = some 1 := by kernel_rfl
theorem sc_Msgs : (match Try.prog.underlying 39 with | some (.struct _) | some (.array _ _) | none => true | _ => false) = false := by kernel_rfl
theorem s1_Msgs : (Try.prog.info? 39).map (·.size) = some 1 := by kernel_rfl
theorem sc_Lss : (match Try.prog.underlying 40 with | some (.struct _) | some (.array _ _) | none => true | _ => false) = false := by kernel_rfl
theorem s1_Lss : (Try.prog.info? 40).map (·.size) = some 1 := by kernel_rfl
theorem sc_Evs : (match Try.prog.underlying 25 with | some (.struct _) | some (.array _ _) | none => true | _ => false) = false := by kernel_rfl
theorem s1_Evs : (Try.prog.info? 25).map (·.size) = some 1 := by kernel_rfl
theorem sc_Anss : (match Try.prog.underlying 81 with | some (.struct _) | some (.array _ _) | none => true | _ => false) = false := by kernel_rfl
theorem s1_Anss : (Try.prog.info? 81).map (·.size) = some 1 := by kernel_rfl

end Go.Proofs.Ytjgbkicnagcmdaa
