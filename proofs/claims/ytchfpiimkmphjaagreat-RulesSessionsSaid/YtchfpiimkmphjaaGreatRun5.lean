/- A part of the proof: Run5. No condition. -/
import Derived.Test.YtchfpiimkmphjaaGreatR5
import Derived.Test.YtchfpiimkmphjaaGreatVmL3
namespace Go.VM
open Go
set_option maxRecDepth 1000000
theorem les_inv {l : List Lf} {e : List AV} {es : List (List AV)} (h : LEs l (e :: es)) : LsOk l e ∧ LEs l es := by unfold LEs at h; cases h with | rcons a b => exact ⟨a, b⟩
theorem les_int {es : List (List AV)} (h : LEs [.int .i64] es) : ∃ ns, es = rowI ns := by
  induction es with
  | nil => exact ⟨[], rfl⟩
  | cons e es ih =>
    obtain ⟨h1, h2⟩ := les_inv h
    obtain ⟨v, r, e1, hx, h3⟩ := h1.inv
    obtain ⟨n, rfl, _, _⟩ := hx.int_inv
    obtain rfl := h3.inv_nil
    obtain ⟨ns, rfl⟩ := ih h2
    exact ⟨n :: ns, by rw [e1]; rfl⟩
theorem inI_of {n : Int} (h1 : IntKind.i64.min ≤ n) (h2 : n ≤ IntKind.i64.max) : inI n = true := by
  rw [inI_iff]
  have e1 : IntKind.i64.min = -9223372036854775808 := by decide
  have e2 : IntKind.i64.max = 9223372036854775807 := by decide
  omega
theorem run5 (s_Gravity_X_V s_Gravity_Y_V s_Dt_V s_Most s_Rounds : Int) (s_Gravity_X_F s_Gravity_Y_F s_Dt_F : Bool)  (l : List (List AV))  (s_Gravity_X_V_lo : IntKind.i64.min ≤ s_Gravity_X_V) (s_Gravity_X_V_hi : s_Gravity_X_V ≤ IntKind.i64.max) (s_Gravity_Y_V_lo : IntKind.i64.min ≤ s_Gravity_Y_V) (s_Gravity_Y_V_hi : s_Gravity_Y_V ≤ IntKind.i64.max) (s_Dt_V_lo : IntKind.i64.min ≤ s_Dt_V) (s_Dt_V_hi : s_Dt_V ≤ IntKind.i64.max) (s_Most_lo : IntKind.i64.min ≤ s_Most) (s_Most_hi : s_Most ≤ IntKind.i64.max) (s_Rounds_lo : IntKind.i64.min ≤ s_Rounds) (s_Rounds_hi : s_Rounds ≤ IntKind.i64.max) (l_es : LEs [.int .i64] l) (l_len : l.length ≤ maxLen) : ∃ ft ot, FTok Go.Proofs.Tryz.prog ft ∧ OTok Go.Proofs.Tryz.prog ot ∧ ∃ H', funA ft ttc ntc ot 1000000 200 (.fn 5) [(AV.agg [.int .i64 s_Gravity_X_V, .bool s_Gravity_X_F, .int .i64 s_Gravity_Y_V, .bool s_Gravity_Y_F, .int .i64 s_Dt_V, .bool s_Dt_F, .int .i64 s_Most, .int .i64 s_Rounds]), (AV.list 1 l)] H0 = some (.bool true, H') := by
  have c1 := inI_of s_Gravity_X_V_lo s_Gravity_X_V_hi
  have c2 := inI_of s_Gravity_Y_V_lo s_Gravity_Y_V_hi
  have c3 := inI_of s_Dt_V_lo s_Dt_V_hi
  by_cases hl : l.length ≤ 12
  · cases hk : okSt s_Gravity_X_V s_Gravity_X_F s_Gravity_Y_V s_Gravity_Y_F s_Dt_V s_Dt_F s_Most s_Rounds with
    | true =>
      obtain ⟨ns, rfl⟩ := les_int l_es
      rw [rowI_len] at hl
      exact ⟨_, _, ftok5, ot5L_ok, run_of_K (run5y ns hl s_Gravity_X_V s_Gravity_Y_V s_Dt_V s_Most s_Rounds s_Gravity_X_F s_Gravity_Y_F s_Dt_F (by simp [allB, c1, c2, c3, hk]))⟩
    | false => exact ⟨_, _, ftok, ot5n_ok, run_of_K (run5n l hl s_Gravity_X_V s_Gravity_Y_V s_Dt_V s_Most s_Rounds s_Gravity_X_F s_Gravity_Y_F s_Dt_F (by simp [allB, c1, c2, c3, hk]))⟩
  · exact ⟨_, _, ftok, ot5l_ok, run_of_K (run5l l hl s_Gravity_X_V s_Gravity_Y_V s_Dt_V s_Most s_Rounds s_Gravity_X_F s_Gravity_Y_F s_Dt_F)⟩
end Go.VM

