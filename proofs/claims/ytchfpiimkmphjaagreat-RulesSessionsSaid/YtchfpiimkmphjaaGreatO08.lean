/- A part of the proof: O08. No condition. -/
import Derived.Test.YtchfpiimkmphjaaGreatTab
import Derived.Test.YtchfpiimkmphjaaGreatVmP9
namespace Go.VM
open Go
noncomputable def ot08 : OT := (.node .nil none (.node .nil none (.node (.node .nil (some (pureS (constS (.bool true)))) .nil) none .nil)))
end Go.VM

