/- A part of the proof: Jp2. No condition. -/
import Derived.Test.YtchfpiimkmphjaaGreatRows
import Derived.ProofKit
namespace Go.Proofs.YtchfpiimkmphjaaGreat
open Go.ChangeShapes Go.WideShapes Go.ChangeAt Go.RowKit
set_option maxRecDepth 1000000
theorem jrows : mapsRowed Tryz.checked.prog = true := by kernel_rfl
theorem jheard : Tryz.checked.prog.stopsHeard = true := by kernel_rfl
theorem jlift : (Rows.rulesRefuseRow.lifted == Tryz.checked.prog.liftsFinal) = true := by kernel_rfl
end Go.Proofs.YtchfpiimkmphjaaGreat

