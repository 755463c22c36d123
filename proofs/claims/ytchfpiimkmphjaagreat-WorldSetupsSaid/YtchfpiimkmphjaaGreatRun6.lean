/- A part of the proof: Run6. No condition. -/
import Derived.Test.YtchfpiimkmphjaaGreatR6
import Derived.Test.YtchfpiimkmphjaaGreatVmL3
namespace Go.VM
open Go
set_option maxRecDepth 1000000
theorem inI_of6 {n : Int} (h1 : IntKind.i64.min ≤ n) (h2 : n ≤ IntKind.i64.max) : inI n = true := by
  rw [inI_iff]
  have e1 : IntKind.i64.min = -9223372036854775808 := by decide
  have e2 : IntKind.i64.max = 9223372036854775807 := by decide
  omega
theorem run6 (s_Gravity_X_V s_Gravity_Y_V s_Dt_V s_Most s_Rounds : Int) (s_Gravity_X_F s_Gravity_Y_F s_Dt_F : Bool)  (s_Gravity_X_V_lo : IntKind.i64.min ≤ s_Gravity_X_V) (s_Gravity_X_V_hi : s_Gravity_X_V ≤ IntKind.i64.max) (s_Gravity_Y_V_lo : IntKind.i64.min ≤ s_Gravity_Y_V) (s_Gravity_Y_V_hi : s_Gravity_Y_V ≤ IntKind.i64.max) (s_Dt_V_lo : IntKind.i64.min ≤ s_Dt_V) (s_Dt_V_hi : s_Dt_V ≤ IntKind.i64.max) (s_Most_lo : IntKind.i64.min ≤ s_Most) (s_Most_hi : s_Most ≤ IntKind.i64.max) (s_Rounds_lo : IntKind.i64.min ≤ s_Rounds) (s_Rounds_hi : s_Rounds ≤ IntKind.i64.max) : ∃ ft ot, FTok Go.Proofs.Tryz.prog ft ∧ OTok Go.Proofs.Tryz.prog ot ∧ ∃ H', funA ft ttc ntc ot 1000000 200 (.fn 6) [(AV.agg [.int .i64 s_Gravity_X_V, .bool s_Gravity_X_F, .int .i64 s_Gravity_Y_V, .bool s_Gravity_Y_F, .int .i64 s_Dt_V, .bool s_Dt_F, .int .i64 s_Most, .int .i64 s_Rounds])] H0 = some (.bool true, H') := by
  have c1 := inI_of6 s_Gravity_X_V_lo s_Gravity_X_V_hi
  have c2 := inI_of6 s_Gravity_Y_V_lo s_Gravity_Y_V_hi
  have c3 := inI_of6 s_Dt_V_lo s_Dt_V_hi
  cases hk : okSt s_Gravity_X_V s_Gravity_X_F s_Gravity_Y_V s_Gravity_Y_F s_Dt_V s_Dt_F s_Most s_Rounds with
  | true => exact ⟨_, _, ftok, ot6L_ok, run_of_K (run6y W0 s_Gravity_X_V s_Gravity_Y_V s_Dt_V s_Most s_Rounds s_Gravity_X_F s_Gravity_Y_F s_Dt_F (by simp [allB, c1, c2, c3, hk]))⟩
  | false => exact ⟨_, _, ftok, ot6n_ok, run_of_K (run6n s_Gravity_X_V s_Gravity_Y_V s_Dt_V s_Most s_Rounds s_Gravity_X_F s_Gravity_Y_F s_Dt_F (by simp [allB, c1, c2, c3, hk]))⟩
end Go.VM

