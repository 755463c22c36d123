/- WorldSetups: for every input the call returns true, and its arguments read afterwards as they did. No condition. -/
import Derived.Test.YtchfpiimkmphjaaGreatRun6
import Derived.Test.YtchfpiimkmphjaaGreatVmL3
import Derived.Test.YtchfpiimkmphjaaGreatVmJf
import Derived.Test.YtchfpiimkmphjaaGreatJp1
import Derived.Test.YtchfpiimkmphjaaGreatJp2
import Derived.Test.YtchfpiimkmphjaaGreatJp3
import Derived.Test.YtchfpiimkmphjaaGreatJl6a
import Derived.Test.YtchfpiimkmphjaaGreatRows
import Derived.ProofKit
namespace Go.Proofs.YtchfpiimkmphjaaGreat
open Go.ChangeShapes Go.WideShapes Go.ChangeAt Go.RowKit

theorem worldSetups_leaves : VM.argLs VM.ttc [59] = some [(true, [.int .i64, .bool, .int .i64, .bool, .int .i64, .bool, .int .i64, .int .i64])] := by kernel_rfl

theorem worldSetups_any {avs : List VM.AV} (hok : VM.ArgsOk [(true, [.int .i64, .bool, .int .i64, .bool, .int .i64, .bool, .int .i64, .int .i64])] avs) : ∃ ft ot, VM.FTok Tryz.prog ft ∧ VM.OTok Tryz.prog ot ∧ ∃ H1, VM.funA ft VM.ttc VM.ntc ot 1000000 200 (.fn 6) avs VM.H0 = some (.bool true, H1) := by
  obtain ⟨ca0, va0, ea, hz0, hok0⟩ := hok.agg_inv; subst ea; clear hok
  obtain rfl := hok0.inv_nil
  obtain ⟨v, hz0r0, e, hx, hz0_0⟩ := hz0.inv; subst e; clear hz0
  obtain ⟨s_Gravity_X_V, rfl, s_Gravity_X_V_lo, s_Gravity_X_V_hi⟩ := hx.int_inv
  obtain ⟨v, hz0r1, e, hx, hz0_1⟩ := hz0_0.inv; subst e; clear hz0_0
  obtain ⟨s_Gravity_X_F, rfl⟩ := hx.bool_inv
  obtain ⟨v, hz0r2, e, hx, hz0_2⟩ := hz0_1.inv; subst e; clear hz0_1
  obtain ⟨s_Gravity_Y_V, rfl, s_Gravity_Y_V_lo, s_Gravity_Y_V_hi⟩ := hx.int_inv
  obtain ⟨v, hz0r3, e, hx, hz0_3⟩ := hz0_2.inv; subst e; clear hz0_2
  obtain ⟨s_Gravity_Y_F, rfl⟩ := hx.bool_inv
  obtain ⟨v, hz0r4, e, hx, hz0_4⟩ := hz0_3.inv; subst e; clear hz0_3
  obtain ⟨s_Dt_V, rfl, s_Dt_V_lo, s_Dt_V_hi⟩ := hx.int_inv
  obtain ⟨v, hz0r5, e, hx, hz0_5⟩ := hz0_4.inv; subst e; clear hz0_4
  obtain ⟨s_Dt_F, rfl⟩ := hx.bool_inv
  obtain ⟨v, hz0r6, e, hx, hz0_6⟩ := hz0_5.inv; subst e; clear hz0_5
  obtain ⟨s_Most, rfl, s_Most_lo, s_Most_hi⟩ := hx.int_inv
  obtain ⟨v, hz0r7, e, hx, hz0_7⟩ := hz0_6.inv; subst e; clear hz0_6
  obtain ⟨s_Rounds, rfl, s_Rounds_lo, s_Rounds_hi⟩ := hx.int_inv
  obtain rfl := hz0_7.inv_nil
  exact VM.run6 s_Gravity_X_V s_Gravity_Y_V s_Dt_V s_Most s_Rounds s_Gravity_X_F s_Gravity_Y_F s_Dt_F s_Gravity_X_V_lo s_Gravity_X_V_hi s_Gravity_Y_V_lo s_Gravity_Y_V_hi s_Dt_V_lo s_Dt_V_hi s_Most_lo s_Most_hi s_Rounds_lo s_Rounds_hi

theorem worldSetups_kids : VM.allN (VM.kidB VM.ttc [2, 3, 4, 28, 30, 59]) [2, 3, 4, 28, 30, 59] = true := by kernel_rfl

theorem worldSetups_own : ownKnob Tryz.prog.godebug = none := by kernel_rfl

set_option maxRecDepth 100000 in
theorem worldSetups_lifted (os : Os) (started : os.Started) (H : Type) (enc : TypeId × Value → H) :
    ReturnsInHanded {} Tryz.checked os 6 .any (Rows.worldSetupsSpec.pre6 enc Tryz.prog Tryz.f6 Rows.worldSetupsRow.domain false) (Rows.worldSetupsSpec.post enc Tryz.prog Tryz.f6 false true false false) := by
  refine returnsInHanded_of_change (C := Tryz.checked) worldSetups_own started (by kernel_rfl) Tryz.func6
    (ChangeSpec.witness6 (enc := enc) (C := Tryz.checked) false ⟨#[], #[.agg #[.int .i64 0, .bool false, .int .i64 0, .bool false, .int .i64 0, .bool false, .int .i64 0, .int .i64 0]], []⟩ 20 (by kernel_rfl) (by kernel_rfl) (by kernel_rfl) (by kernel_rfl)) ?_
  intro W base args ds gs before hval0 hW hcnd _
  have hval : ∀ (j : Nat) t v, Tryz.f6.params[j]? = some t → args[j]? = some v → Value.okWide Tryz.prog W .any base t v := hval0
  have hW2 := hW
  obtain ⟨p, q, hA0, hV, rfl, hfz, hnd⟩ := hW
  have hA : DataW.TrodAll enc Tryz.prog W 0 (fun _ => true) true Tryz.f6.params.toList args.toList ds p := hA0
  rw [Tryz.params6] at hA hval
  obtain ⟨rfl, rfl⟩ := trodVars_none hV
  obtain ⟨avs, ha, hok⟩ := VM.law_args VM.ttok (base := base) worldSetups_leaves (fun j t v h1 h2 => hval j t v (by simpa using h1) (by simpa using h2)) hA
  have ha2 : VM.ARel (fun _ => none) (VM.snap W) avs args := by simpa using ha
  obtain ⟨ft, ot, hft, hot, H1, hrun⟩ := worldSetups_any hok
  have hc := VM.law_calls VM.mixed hft VM.ttok VM.ntok hot hrun (fun b c hb => VM.snap_cells hb) ha2
  refine hc.mono fun e W' ⟨cv, σ', F', he, hv, hb⟩ => ?_
  subst he
  obtain rfl := hv.bool_inv
  have hlenD := VM.trod_len hA
  obtain ⟨e0, rfl⟩ : ∃ e0, ds = [e0] := by
    match ds, hlenD with
    | [e0], _ => exact ⟨e0, rfl⟩
  refine ⟨_, rfl, VM.post_of_only (pa := p) (pv := []) hW2 (fun _ _ _ => ?_) (fun sp hsp => ?_) (fun _ _ => rfl) (fun may => hb.frame may)⟩
  · exact trodAll_mk1 (shut_bool Tryz.underlying4 true)
  · have hg := VM.args_again VM.ttok worldSetups_kids (fun b hlt => hb.block b hlt) (sp := sp) (by intro t ht; revert t; decide) hA (fun x hx => hsp x (List.mem_append_left _ hx))
    have e : Tryz.f6.params.toList = [59] := by rw [Tryz.params6]
    show DataW.TrodAll _ _ _ _ _ _ _ _ _ _
    rw [e]; exact hg

theorem worldSetups_holds : Rows.WorldSetupsSaid :=
  OpenClaim.holds_of_wide 6 Tryz.f6 rfl rfl rfl rfl rfl rfl rfl ⟨rfl, rfl, rfl, rfl, rfl⟩ rfl rfl rfl rfl rfl (by kernel_rfl) Tryz.func6
    (VM.jf (P := Tryz.checked.prog) (f := 6) (fn := Tryz.f6) (s := Rows.worldSetupsSpec) (c := Rows.worldSetupsRow) (by kernel_rfl) jlaid jrows (by kernel_rfl) (by kernel_rfl) (by kernel_rfl) (by kernel_rfl) (by kernel_rfl) (by kernel_rfl) worldSetups_jin worldSetups_junf worldSetups_jrec worldSetups_jnam (by kernel_rfl) (by kernel_rfl) (by kernel_rfl) (by kernel_rfl) (by kernel_rfl) (by kernel_rfl) (by kernel_rfl) (by kernel_rfl) (by kernel_rfl) jkeys (by kernel_rfl) jheard jmay jlift (by kernel_rfl) (by kernel_rfl) (by kernel_rfl) (by kernel_rfl) (by kernel_rfl))
    (of_decide_eq_true (by kernel_rfl)) (by unfold Func.isWrapper; first | (rw [if_pos (by decide +kernel)]; kernel_rfl) | (rw [if_neg (by decide +kernel)]; exact ⟨rfl, rfl⟩))
    (fun os started H enc _ => worldSetups_lifted os started H enc)

end Go.Proofs.YtchfpiimkmphjaaGreat

