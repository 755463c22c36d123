/- A part of the proof: Jl5a. No condition. -/
import Derived.Test.YtchfpiimkmphjaaGreatRows
import Derived.ProofKit
namespace Go.Proofs.YtchfpiimkmphjaaGreat
open Go.ChangeShapes Go.WideShapes Go.ChangeAt Go.RowKit
set_option maxRecDepth 1000000
theorem rulesSessions_jin : (Rows.rulesSessionsRow.inPlace == Tryz.checked.prog.inPlace 5) = true := by kernel_rfl
theorem rulesSessions_junf : (Rows.rulesSessionsRow.unfollowed == Tryz.checked.prog.unfollowed 5) = true := by kernel_rfl
theorem rulesSessions_jrec : (Rows.rulesSessionsRow.recurses == Tryz.checked.prog.recurses 5) = true := by kernel_rfl
theorem rulesSessions_jnam : (Rows.rulesSessionsRow.named == Tryz.checked.prog.varsNamed 5) = true := by kernel_rfl
end Go.Proofs.YtchfpiimkmphjaaGreat

