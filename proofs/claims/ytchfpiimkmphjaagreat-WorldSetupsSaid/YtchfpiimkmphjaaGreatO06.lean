/- A part of the proof: O06. No condition. -/
import Derived.Test.YtchfpiimkmphjaaGreatTab
import Derived.Test.YtchfpiimkmphjaaGreatVmP8
import Derived.Test.YtchfpiimkmphjaaGreatCov
namespace Go.VM
open Go
noncomputable def ot06 : OT := (.node (.node (.node .nil none (.node .nil none (.node .nil none (.node (.node (.node .nil none (.node .nil (some (pureS overS)) .nil)) none .nil) none .nil)))) none .nil) none (.node .nil none (.node (.node .nil none (.node .nil none (.node (.node (.node (.node .nil (some (orS [368])) .nil) none .nil) none .nil) none .nil))) none .nil)))
noncomputable def ot06a : OT := (.node .nil none (.node (.node .nil none (.node (.node (.node .nil (some (pureS (constS (.bool true)))) .nil) none .nil) none .nil)) none .nil))
end Go.VM

