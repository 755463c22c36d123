/- A part of the proof: Jl8a. No condition. -/
import Derived.Test.YtchfpiimkmphjaaGreatRows
import Derived.ProofKit
namespace Go.Proofs.YtchfpiimkmphjaaGreat
open Go.ChangeShapes Go.WideShapes Go.ChangeAt Go.RowKit
set_option maxRecDepth 1000000
theorem worldKnown_jin : (Rows.worldKnownRow.inPlace == Tryz.checked.prog.inPlace 8) = true := by kernel_rfl
theorem worldKnown_junf : (Rows.worldKnownRow.unfollowed == Tryz.checked.prog.unfollowed 8) = true := by kernel_rfl
theorem worldKnown_jrec : (Rows.worldKnownRow.recurses == Tryz.checked.prog.recurses 8) = true := by kernel_rfl
theorem worldKnown_jnam : (Rows.worldKnownRow.named == Tryz.checked.prog.varsNamed 8) = true := by kernel_rfl
end Go.Proofs.YtchfpiimkmphjaaGreat

