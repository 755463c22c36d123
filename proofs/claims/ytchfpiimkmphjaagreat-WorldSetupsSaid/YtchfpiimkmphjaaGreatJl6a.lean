/- A part of the proof: Jl6a. No condition. -/
import Derived.Test.YtchfpiimkmphjaaGreatRows
import Derived.ProofKit
namespace Go.Proofs.YtchfpiimkmphjaaGreat
open Go.ChangeShapes Go.WideShapes Go.ChangeAt Go.RowKit
set_option maxRecDepth 1000000
theorem worldSetups_jin : (Rows.worldSetupsRow.inPlace == Tryz.checked.prog.inPlace 6) = true := by kernel_rfl
theorem worldSetups_junf : (Rows.worldSetupsRow.unfollowed == Tryz.checked.prog.unfollowed 6) = true := by kernel_rfl
theorem worldSetups_jrec : (Rows.worldSetupsRow.recurses == Tryz.checked.prog.recurses 6) = true := by kernel_rfl
theorem worldSetups_jnam : (Rows.worldSetupsRow.named == Tryz.checked.prog.varsNamed 6) = true := by kernel_rfl
end Go.Proofs.YtchfpiimkmphjaaGreat

