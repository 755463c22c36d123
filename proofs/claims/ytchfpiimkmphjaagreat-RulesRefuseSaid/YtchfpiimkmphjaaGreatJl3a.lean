/- A part of the proof: Jl3a. No condition. -/
import Derived.Test.YtchfpiimkmphjaaGreatRows
import Derived.ProofKit
namespace Go.Proofs.YtchfpiimkmphjaaGreat
open Go.ChangeShapes Go.WideShapes Go.ChangeAt Go.RowKit
set_option maxRecDepth 1000000
theorem rulesRefuse_jin : (Rows.rulesRefuseRow.inPlace == Tryz.checked.prog.inPlace 3) = true := by kernel_rfl
theorem rulesRefuse_junf : (Rows.rulesRefuseRow.unfollowed == Tryz.checked.prog.unfollowed 3) = true := by kernel_rfl
theorem rulesRefuse_jrec : (Rows.rulesRefuseRow.recurses == Tryz.checked.prog.recurses 3) = true := by kernel_rfl
theorem rulesRefuse_jnam : (Rows.rulesRefuseRow.named == Tryz.checked.prog.varsNamed 3) = true := by kernel_rfl
end Go.Proofs.YtchfpiimkmphjaaGreat

