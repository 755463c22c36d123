/- A part of the proof: Jl4a. No condition. -/
import Derived.Test.YtchfpiimkmphjaaGreatRows
import Derived.ProofKit
namespace Go.Proofs.YtchfpiimkmphjaaGreat
open Go.ChangeShapes Go.WideShapes Go.ChangeAt Go.RowKit
set_option maxRecDepth 1000000
theorem rulesKnown_jin : (Rows.rulesKnownRow.inPlace == Tryz.checked.prog.inPlace 4) = true := by kernel_rfl
theorem rulesKnown_junf : (Rows.rulesKnownRow.unfollowed == Tryz.checked.prog.unfollowed 4) = true := by kernel_rfl
theorem rulesKnown_jrec : (Rows.rulesKnownRow.recurses == Tryz.checked.prog.recurses 4) = true := by kernel_rfl
theorem rulesKnown_jnam : (Rows.rulesKnownRow.named == Tryz.checked.prog.varsNamed 4) = true := by kernel_rfl
end Go.Proofs.YtchfpiimkmphjaaGreat

