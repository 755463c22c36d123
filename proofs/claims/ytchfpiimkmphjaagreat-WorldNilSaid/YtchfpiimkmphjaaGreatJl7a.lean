/- A part of the proof: Jl7a. No condition. -/
import Derived.Test.YtchfpiimkmphjaaGreatRows
import Derived.ProofKit
namespace Go.Proofs.YtchfpiimkmphjaaGreat
open Go.ChangeShapes Go.WideShapes Go.ChangeAt Go.RowKit
set_option maxRecDepth 1000000
theorem worldNil_jin : (Rows.worldNilRow.inPlace == Tryz.checked.prog.inPlace 7) = true := by kernel_rfl
theorem worldNil_junf : (Rows.worldNilRow.unfollowed == Tryz.checked.prog.unfollowed 7) = true := by kernel_rfl
theorem worldNil_jrec : (Rows.worldNilRow.recurses == Tryz.checked.prog.recurses 7) = true := by kernel_rfl
theorem worldNil_jnam : (Rows.worldNilRow.named == Tryz.checked.prog.varsNamed 7) = true := by kernel_rfl
end Go.Proofs.YtchfpiimkmphjaaGreat

