/- A part of the proof: Jp3. No condition. -/
import Derived.Test.YtchfpiimkmphjaaGreatRows
import Derived.ProofKit
namespace Go.Proofs.YtchfpiimkmphjaaGreat
open Go.ChangeShapes Go.WideShapes Go.ChangeAt Go.RowKit
set_option maxRecDepth 1000000
theorem jmay : Tryz.checked.prog.mayEnter = true := by kernel_rfl
theorem jkeys : (Rows.rulesRefuseRow.plainKeys == Tryz.checked.prog.plainKeys) = true := by kernel_rfl
end Go.Proofs.YtchfpiimkmphjaaGreat

