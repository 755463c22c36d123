/- A part of the proof: O6. No condition. -/
import Derived.Test.YtchfpiimkmphjaaGreatP33z
import Derived.Test.YtchfpiimkmphjaaGreatP34z
import Derived.Test.YtchfpiimkmphjaaGreatOK06
import Derived.Test.YtchfpiimkmphjaaGreatVmL3
namespace Go.VM
open Go
set_option maxRecDepth 1000000
noncomputable section
def ls6 (W : Int → Int → Int → Int → Int → ByteArray) : List (Nat × SumF) := [(31, pureS setSy), (32, pureS setSy), (33, readS rhoA (S33 W)), (34, readS rhoA (S34 W)), (36, pureS (constS (.bool true)))]
def ot6L (W : Int → Int → Int → Int → Int → ByteArray) : OT := tabOf (ls6 W)
def ls6n : List (Nat × SumF) := [(31, pureS setSn), (32, pureS setSn), (36, pureS (constS (.bool true)))]
def ot6n : OT := tabOf ls6n
theorem ot6L_ok : OTok Go.Proofs.Tryz.prog (ot6L W0) := otok_of (l := ls6 W0) ftok rfl (by kernel_rfl) (by
  intro p hp
  rcases List.mem_cons.1 hp with rfl | hp
  · exact setSy_weak sum31
  rcases List.mem_cons.1 hp with rfl | hp
  · exact setSy_weak sum32
  rcases List.mem_cons.1 hp with rfl | hp
  · exact sum33
  rcases List.mem_cons.1 hp with rfl | hp
  · exact sum34
  rcases List.mem_cons.1 hp with rfl | hp
  · exact sum36
  cases hp)
theorem ot6n_ok : OTok Go.Proofs.Tryz.prog ot6n := otok_of (l := ls6n) ftok rfl (by kernel_rfl) (by
  intro p hp
  rcases List.mem_cons.1 hp with rfl | hp
  · exact setSn_weak sum31
  rcases List.mem_cons.1 hp with rfl | hp
  · exact setSn_weak sum32
  rcases List.mem_cons.1 hp with rfl | hp
  · exact sum36
  cases hp)
end
end Go.VM

