/- A part of the proof: O5. No condition. -/
import Derived.Test.YtchfpiimkmphjaaGreatSm26
import Derived.Test.YtchfpiimkmphjaaGreatSe27
import Derived.Test.YtchfpiimkmphjaaGreatSe28
import Derived.Test.YtchfpiimkmphjaaGreatRmb
import Derived.Test.YtchfpiimkmphjaaGreatN21
import Derived.Test.YtchfpiimkmphjaaGreatN22
import Derived.Test.YtchfpiimkmphjaaGreatOK08
import Derived.Test.YtchfpiimkmphjaaGreatVmP9
namespace Go.VM
open Go
set_option maxRecDepth 1000000
noncomputable section
def ls5 : List (Nat × SumF) := [(10, pureS (constS (.bool true))), (20, heapS rhoA S20), (21, heapS rhoA S21y), (22, heapS rhoA S22y), (23, heapS rhoA S23), (24, heapS rhoA S24), (25, heapS rhoA S25), (26, pureZ S26), (27, readS rhoA S27), (28, readS rhoA S28)]
def ot5L : OT := tabOf ls5
def ls5n : List (Nat × SumF) := [(10, pureS (constS (.bool true))), (21, heapS rhoA S21n), (22, heapS rhoA S22n)]
def ot5n : OT := tabOf ls5n
def ls5l : List (Nat × SumF) := [(10, pureS (constS (.bool true))), (21, stopS)]
def ot5l : OT := tabOf ls5l
theorem ot5L_ok : OTok Go.Proofs.Tryz.prog ot5L := otok_of (l := ls5) ftok rfl (by kernel_rfl) (by
  intro p hp
  rcases List.mem_cons.1 hp with rfl | hp
  · exact sum10
  rcases List.mem_cons.1 hp with rfl | hp
  · exact sum20
  rcases List.mem_cons.1 hp with rfl | hp
  · exact sum21y
  rcases List.mem_cons.1 hp with rfl | hp
  · exact sum22y
  rcases List.mem_cons.1 hp with rfl | hp
  · exact sum23
  rcases List.mem_cons.1 hp with rfl | hp
  · exact sum24
  rcases List.mem_cons.1 hp with rfl | hp
  · exact sum25
  rcases List.mem_cons.1 hp with rfl | hp
  · exact sum26z
  rcases List.mem_cons.1 hp with rfl | hp
  · exact sum27
  rcases List.mem_cons.1 hp with rfl | hp
  · exact sum28
  cases hp)
theorem ot5n_ok : OTok Go.Proofs.Tryz.prog ot5n := otok_of (l := ls5n) ftok rfl (by kernel_rfl) (by
  intro p hp
  rcases List.mem_cons.1 hp with rfl | hp
  · exact sum10
  rcases List.mem_cons.1 hp with rfl | hp
  · exact sum21n
  rcases List.mem_cons.1 hp with rfl | hp
  · exact sum22n
  cases hp)
theorem ot5l_ok : OTok Go.Proofs.Tryz.prog ot5l := otok_of (l := ls5l) ftok rfl (by kernel_rfl) (by
  intro p hp
  rcases List.mem_cons.1 hp with rfl | hp
  · exact sum10
  rcases List.mem_cons.1 hp with rfl | hp
  · exact stop_ok _ _
  cases hp)
end
end Go.VM

