/- A part of the proof: Jl9a. No condition. -/
import Derived.Test.YtchfpiimkmphjaaGreatRows
import Derived.ProofKit
namespace Go.Proofs.YtchfpiimkmphjaaGreat
open Go.ChangeShapes Go.WideShapes Go.ChangeAt Go.RowKit
set_option maxRecDepth 1000000
theorem rulesNil_jin : (Rows.rulesNilRow.inPlace == Tryz.checked.prog.inPlace 9) = true := by kernel_rfl
theorem rulesNil_junf : (Rows.rulesNilRow.unfollowed == Tryz.checked.prog.unfollowed 9) = true := by kernel_rfl
theorem rulesNil_jrec : (Rows.rulesNilRow.recurses == Tryz.checked.prog.recurses 9) = true := by kernel_rfl
theorem rulesNil_jnam : (Rows.rulesNilRow.named == Tryz.checked.prog.varsNamed 9) = true := by kernel_rfl
end Go.Proofs.YtchfpiimkmphjaaGreat

