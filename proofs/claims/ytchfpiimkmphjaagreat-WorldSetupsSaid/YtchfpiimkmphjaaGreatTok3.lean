/- A part of the proof: Tok3. No condition. -/
import Derived.Test.YtchfpiimkmphjaaGreatTab
import Derived.KernelRfl
namespace Go.VM
open Go
set_option maxRecDepth 1000000
theorem nat295 : NatRow Go.Proofs.Tryz.prog 295 2 := ⟨Go.Proofs.Tryz.f295, by kernel_rfl, by kernel_rfl, by kernel_rfl, by kernel_rfl, by kernel_rfl⟩
theorem nat431 : NatRow Go.Proofs.Tryz.prog 431 0 := ⟨Go.Proofs.Tryz.f431, by kernel_rfl, by kernel_rfl, by kernel_rfl, by kernel_rfl, by kernel_rfl⟩
theorem nat433 : NatRow Go.Proofs.Tryz.prog 433 1 := ⟨Go.Proofs.Tryz.f433, by kernel_rfl, by kernel_rfl, by kernel_rfl, by kernel_rfl, by kernel_rfl⟩
theorem ntok : NTok Go.Proofs.Tryz.prog ntc := ntok_of (l := [(295, 2), (431, 0), (433, 1)]) (by kernel_rfl) (by
  intro p hp
  rcases List.mem_cons.1 hp with rfl | hp
  · exact nat295
  rcases List.mem_cons.1 hp with rfl | hp
  · exact nat431
  rcases List.mem_cons.1 hp with rfl | hp
  · exact nat433
  cases hp)
end Go.VM

