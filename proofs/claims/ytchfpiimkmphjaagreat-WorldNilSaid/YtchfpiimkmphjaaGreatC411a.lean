/- A part of the proof: C411a. No condition. -/
import Derived.Test.YtchfpiimkmphjaaGreatTab
import Derived.Test.YtchfpiimkmphjaaGreatVmP8
namespace Go.VM
open Go
noncomputable def fi411 : FI := { fiOf Go.Proofs.Tryz.f411 with trim := trimAt 4 [1, 2, 4, 5, 6, 7] }
noncomputable def ft411 : Tr FI := ftc.set 40 411 (some fi411)
noncomputable def fr411 (d rest i : Int) : AF := { tmps := ((((((Tr.nil.set 40 7 (some (.int .i64 i))).set 40 6 (some (.int .u64 rest))).set 40 5 (some (.ptr 2 3 0 0))).set 40 4 (some (.ptr 1 3 0 0))).set 40 2 (some (.ptr 0 3 0 0))).set 40 1 (some (.int .u64 d))), sz := 58, marks := [], rnd := none }
noncomputable def hp411 (neg : Bool) (ahi alo qhi qlo : Int) : AH := { next := 3, tr := ((Tr.nil.set 40 0 (some (.arr 3 [[.bool neg, .int .u64 ahi, .int .u64 alo]]))).set 40 1 (some (.arr 3 [[.bool false, .int .u64 0, .int .u64 0]]))).set 40 2 (some (.arr 3 [[.bool neg, .int .u64 qhi, .int .u64 qlo]])), log := [2, 1, 0] }
end Go.VM

