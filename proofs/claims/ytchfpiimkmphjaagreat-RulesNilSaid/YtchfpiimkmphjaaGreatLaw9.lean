/- RulesNil: for every input the call returns true, and its arguments read afterwards as they did. No condition. -/
import Derived.Test.YtchfpiimkmphjaaGreatRun9
import Derived.Test.YtchfpiimkmphjaaGreatOK08
import Derived.Test.YtchfpiimkmphjaaGreatVmL3
import Derived.Test.YtchfpiimkmphjaaGreatVmJf
import Derived.Test.YtchfpiimkmphjaaGreatJp1
import Derived.Test.YtchfpiimkmphjaaGreatJp2
import Derived.Test.YtchfpiimkmphjaaGreatJp3
import Derived.Test.YtchfpiimkmphjaaGreatJl9a
import Derived.Test.YtchfpiimkmphjaaGreatRows
import Derived.ProofKit
namespace Go.Proofs.YtchfpiimkmphjaaGreat
open Go.ChangeShapes Go.WideShapes Go.ChangeAt Go.RowKit

theorem rulesNil_leaves : VM.argLs VM.ttc [3, 40, 23] = some [(false, [.int .i64]), (true, [.int .i64, .int .i64, .int .i64, .int .i64, .int .i64, .int .i64, .int .i64, .int .i64, .int .i64, .slice 2 [.int .i64, .int .i64], .int .i64, .bool, .int .i64, .bool, .int .i64, .bool, .int .i64, .bool, .int .i64, .bool, .int .i64, .bool, .int .i64, .bool, .int .i64, .bool, .int .i64, .bool, .int .i64, .bool, .int .i64, .bool, .int .i64, .bool, .int .i64, .int .i64, .int .i64, .int .i64, .int .i64, .int .i64, .int .i64, .int .i64, .int .i64]), (true, [.int .i64, .int .i64])] := by kernel_rfl

theorem rulesNil_any {avs : List VM.AV} (hok : VM.ArgsOk [(false, [.int .i64]), (true, [.int .i64, .int .i64, .int .i64, .int .i64, .int .i64, .int .i64, .int .i64, .int .i64, .int .i64, .slice 2 [.int .i64, .int .i64], .int .i64, .bool, .int .i64, .bool, .int .i64, .bool, .int .i64, .bool, .int .i64, .bool, .int .i64, .bool, .int .i64, .bool, .int .i64, .bool, .int .i64, .bool, .int .i64, .bool, .int .i64, .bool, .int .i64, .bool, .int .i64, .int .i64, .int .i64, .int .i64, .int .i64, .int .i64, .int .i64, .int .i64, .int .i64]), (true, [.int .i64, .int .i64])] avs) : ∃ H1, VM.funA VM.ftc VM.ttc VM.ntc VM.ot08 1000000 200 (.fn 9) avs VM.H0 = some (.bool true, H1) := by
  obtain ⟨ca0, va0, ea, hz0, hok0⟩ := hok.one_inv; subst ea; clear hok
  obtain ⟨ca1, va1, ea, hz1, hok1⟩ := hok0.agg_inv; subst ea; clear hok0
  obtain ⟨ca2, va2, ea, hz2, hok2⟩ := hok1.agg_inv; subst ea; clear hok1
  obtain rfl := hok2.inv_nil
  obtain ⟨session, rfl, session_lo, session_hi⟩ := hz0.int_inv
  obtain ⟨v, hz1r0, e, hx, hz1_0⟩ := hz1.inv; subst e; clear hz1
  obtain ⟨c_Kind, rfl, c_Kind_lo, c_Kind_hi⟩ := hx.int_inv
  obtain ⟨v, hz1r1, e, hx, hz1_1⟩ := hz1_0.inv; subst e; clear hz1_0
  obtain ⟨c_Id, rfl, c_Id_lo, c_Id_hi⟩ := hx.int_inv
  obtain ⟨v, hz1r2, e, hx, hz1_2⟩ := hz1_1.inv; subst e; clear hz1_1
  obtain ⟨c_Body_Slot, rfl, c_Body_Slot_lo, c_Body_Slot_hi⟩ := hx.int_inv
  obtain ⟨v, hz1r3, e, hx, hz1_3⟩ := hz1_2.inv; subst e; clear hz1_2
  obtain ⟨c_Body_Gen, rfl, c_Body_Gen_lo, c_Body_Gen_hi⟩ := hx.int_inv
  obtain ⟨v, hz1r4, e, hx, hz1_4⟩ := hz1_3.inv; subst e; clear hz1_3
  obtain ⟨c_Version, rfl, c_Version_lo, c_Version_hi⟩ := hx.int_inv
  obtain ⟨v, hz1r5, e, hx, hz1_5⟩ := hz1_4.inv; subst e; clear hz1_4
  obtain ⟨c_Shape_Kind, rfl, c_Shape_Kind_lo, c_Shape_Kind_hi⟩ := hx.int_inv
  obtain ⟨v, hz1r6, e, hx, hz1_6⟩ := hz1_5.inv; subst e; clear hz1_5
  obtain ⟨c_Shape_R, rfl, c_Shape_R_lo, c_Shape_R_hi⟩ := hx.int_inv
  obtain ⟨v, hz1r7, e, hx, hz1_7⟩ := hz1_6.inv; subst e; clear hz1_6
  obtain ⟨c_Shape_W, rfl, c_Shape_W_lo, c_Shape_W_hi⟩ := hx.int_inv
  obtain ⟨v, hz1r8, e, hx, hz1_8⟩ := hz1_7.inv; subst e; clear hz1_7
  obtain ⟨c_Shape_H, rfl, c_Shape_H_lo, c_Shape_H_hi⟩ := hx.int_inv
  obtain ⟨v, hz1r9, e, hx, hz1_9⟩ := hz1_8.inv; subst e; clear hz1_8
  obtain ⟨c_Shape_Pts, rfl, c_Shape_Pts_es, c_Shape_Pts_len⟩ := hx.slice_inv
  obtain ⟨v, hz1r10, e, hx, hz1_10⟩ := hz1_9.inv; subst e; clear hz1_9
  obtain ⟨c_Pose_At_X_V, rfl, c_Pose_At_X_V_lo, c_Pose_At_X_V_hi⟩ := hx.int_inv
  obtain ⟨v, hz1r11, e, hx, hz1_11⟩ := hz1_10.inv; subst e; clear hz1_10
  obtain ⟨c_Pose_At_X_F, rfl⟩ := hx.bool_inv
  obtain ⟨v, hz1r12, e, hx, hz1_12⟩ := hz1_11.inv; subst e; clear hz1_11
  obtain ⟨c_Pose_At_Y_V, rfl, c_Pose_At_Y_V_lo, c_Pose_At_Y_V_hi⟩ := hx.int_inv
  obtain ⟨v, hz1r13, e, hx, hz1_13⟩ := hz1_12.inv; subst e; clear hz1_12
  obtain ⟨c_Pose_At_Y_F, rfl⟩ := hx.bool_inv
  obtain ⟨v, hz1r14, e, hx, hz1_14⟩ := hz1_13.inv; subst e; clear hz1_13
  obtain ⟨c_Pose_Rot_C_V, rfl, c_Pose_Rot_C_V_lo, c_Pose_Rot_C_V_hi⟩ := hx.int_inv
  obtain ⟨v, hz1r15, e, hx, hz1_15⟩ := hz1_14.inv; subst e; clear hz1_14
  obtain ⟨c_Pose_Rot_C_F, rfl⟩ := hx.bool_inv
  obtain ⟨v, hz1r16, e, hx, hz1_16⟩ := hz1_15.inv; subst e; clear hz1_15
  obtain ⟨c_Pose_Rot_S_V, rfl, c_Pose_Rot_S_V_lo, c_Pose_Rot_S_V_hi⟩ := hx.int_inv
  obtain ⟨v, hz1r17, e, hx, hz1_17⟩ := hz1_16.inv; subst e; clear hz1_16
  obtain ⟨c_Pose_Rot_S_F, rfl⟩ := hx.bool_inv
  obtain ⟨v, hz1r18, e, hx, hz1_18⟩ := hz1_17.inv; subst e; clear hz1_17
  obtain ⟨c_V_X_V, rfl, c_V_X_V_lo, c_V_X_V_hi⟩ := hx.int_inv
  obtain ⟨v, hz1r19, e, hx, hz1_19⟩ := hz1_18.inv; subst e; clear hz1_18
  obtain ⟨c_V_X_F, rfl⟩ := hx.bool_inv
  obtain ⟨v, hz1r20, e, hx, hz1_20⟩ := hz1_19.inv; subst e; clear hz1_19
  obtain ⟨c_V_Y_V, rfl, c_V_Y_V_lo, c_V_Y_V_hi⟩ := hx.int_inv
  obtain ⟨v, hz1r21, e, hx, hz1_21⟩ := hz1_20.inv; subst e; clear hz1_20
  obtain ⟨c_V_Y_F, rfl⟩ := hx.bool_inv
  obtain ⟨v, hz1r22, e, hx, hz1_22⟩ := hz1_21.inv; subst e; clear hz1_21
  obtain ⟨c_W_V, rfl, c_W_V_lo, c_W_V_hi⟩ := hx.int_inv
  obtain ⟨v, hz1r23, e, hx, hz1_23⟩ := hz1_22.inv; subst e; clear hz1_22
  obtain ⟨c_W_F, rfl⟩ := hx.bool_inv
  obtain ⟨v, hz1r24, e, hx, hz1_24⟩ := hz1_23.inv; subst e; clear hz1_23
  obtain ⟨c_Density, rfl, c_Density_lo, c_Density_hi⟩ := hx.int_inv
  obtain ⟨v, hz1r25, e, hx, hz1_25⟩ := hz1_24.inv; subst e; clear hz1_24
  obtain ⟨c_Moves, rfl⟩ := hx.bool_inv
  obtain ⟨v, hz1r26, e, hx, hz1_26⟩ := hz1_25.inv; subst e; clear hz1_25
  obtain ⟨c_At_X_V, rfl, c_At_X_V_lo, c_At_X_V_hi⟩ := hx.int_inv
  obtain ⟨v, hz1r27, e, hx, hz1_27⟩ := hz1_26.inv; subst e; clear hz1_26
  obtain ⟨c_At_X_F, rfl⟩ := hx.bool_inv
  obtain ⟨v, hz1r28, e, hx, hz1_28⟩ := hz1_27.inv; subst e; clear hz1_27
  obtain ⟨c_At_Y_V, rfl, c_At_Y_V_lo, c_At_Y_V_hi⟩ := hx.int_inv
  obtain ⟨v, hz1r29, e, hx, hz1_29⟩ := hz1_28.inv; subst e; clear hz1_28
  obtain ⟨c_At_Y_F, rfl⟩ := hx.bool_inv
  obtain ⟨v, hz1r30, e, hx, hz1_30⟩ := hz1_29.inv; subst e; clear hz1_29
  obtain ⟨c_To_X_V, rfl, c_To_X_V_lo, c_To_X_V_hi⟩ := hx.int_inv
  obtain ⟨v, hz1r31, e, hx, hz1_31⟩ := hz1_30.inv; subst e; clear hz1_30
  obtain ⟨c_To_X_F, rfl⟩ := hx.bool_inv
  obtain ⟨v, hz1r32, e, hx, hz1_32⟩ := hz1_31.inv; subst e; clear hz1_31
  obtain ⟨c_To_Y_V, rfl, c_To_Y_V_lo, c_To_Y_V_hi⟩ := hx.int_inv
  obtain ⟨v, hz1r33, e, hx, hz1_33⟩ := hz1_32.inv; subst e; clear hz1_32
  obtain ⟨c_To_Y_F, rfl⟩ := hx.bool_inv
  obtain ⟨v, hz1r34, e, hx, hz1_34⟩ := hz1_33.inv; subst e; clear hz1_33
  obtain ⟨c_Grab, rfl, c_Grab_lo, c_Grab_hi⟩ := hx.int_inv
  obtain ⟨v, hz1r35, e, hx, hz1_35⟩ := hz1_34.inv; subst e; clear hz1_34
  obtain ⟨c_Box_X0, rfl, c_Box_X0_lo, c_Box_X0_hi⟩ := hx.int_inv
  obtain ⟨v, hz1r36, e, hx, hz1_36⟩ := hz1_35.inv; subst e; clear hz1_35
  obtain ⟨c_Box_Y0, rfl, c_Box_Y0_lo, c_Box_Y0_hi⟩ := hx.int_inv
  obtain ⟨v, hz1r37, e, hx, hz1_37⟩ := hz1_36.inv; subst e; clear hz1_36
  obtain ⟨c_Box_X1, rfl, c_Box_X1_lo, c_Box_X1_hi⟩ := hx.int_inv
  obtain ⟨v, hz1r38, e, hx, hz1_38⟩ := hz1_37.inv; subst e; clear hz1_37
  obtain ⟨c_Box_Y1, rfl, c_Box_Y1_lo, c_Box_Y1_hi⟩ := hx.int_inv
  obtain ⟨v, hz1r39, e, hx, hz1_39⟩ := hz1_38.inv; subst e; clear hz1_38
  obtain ⟨c_From_X, rfl, c_From_X_lo, c_From_X_hi⟩ := hx.int_inv
  obtain ⟨v, hz1r40, e, hx, hz1_40⟩ := hz1_39.inv; subst e; clear hz1_39
  obtain ⟨c_From_Y, rfl, c_From_Y_lo, c_From_Y_hi⟩ := hx.int_inv
  obtain ⟨v, hz1r41, e, hx, hz1_41⟩ := hz1_40.inv; subst e; clear hz1_40
  obtain ⟨c_Until_X, rfl, c_Until_X_lo, c_Until_X_hi⟩ := hx.int_inv
  obtain ⟨v, hz1r42, e, hx, hz1_42⟩ := hz1_41.inv; subst e; clear hz1_41
  obtain ⟨c_Until_Y, rfl, c_Until_Y_lo, c_Until_Y_hi⟩ := hx.int_inv
  obtain rfl := hz1_42.inv_nil
  obtain ⟨v, hz2r0, e, hx, hz2_0⟩ := hz2.inv; subst e; clear hz2
  obtain ⟨h_Slot, rfl, h_Slot_lo, h_Slot_hi⟩ := hx.int_inv
  obtain ⟨v, hz2r1, e, hx, hz2_1⟩ := hz2_0.inv; subst e; clear hz2_0
  obtain ⟨h_Gen, rfl, h_Gen_lo, h_Gen_hi⟩ := hx.int_inv
  obtain rfl := hz2_1.inv_nil
  exact VM.run9 session c_Kind c_Id c_Body_Slot c_Body_Gen c_Version c_Shape_Kind c_Shape_R c_Shape_W c_Shape_H c_Pose_At_X_V c_Pose_At_Y_V c_Pose_Rot_C_V c_Pose_Rot_S_V c_V_X_V c_V_Y_V c_W_V c_Density c_At_X_V c_At_Y_V c_To_X_V c_To_Y_V c_Grab c_Box_X0 c_Box_Y0 c_Box_X1 c_Box_Y1 c_From_X c_From_Y c_Until_X c_Until_Y c_Pose_At_X_F c_Pose_At_Y_F c_Pose_Rot_C_F c_Pose_Rot_S_F c_V_X_F c_V_Y_F c_W_F c_Moves c_At_X_F c_At_Y_F c_To_X_F c_To_Y_F c_Shape_Pts h_Slot h_Gen 

theorem rulesNil_kids : VM.allN (VM.kidB VM.ttc [2, 3, 4, 23, 24, 26, 28, 30, 32, 34, 36, 38, 40]) [2, 3, 4, 23, 24, 26, 28, 30, 32, 34, 36, 38, 40] = true := by kernel_rfl

theorem rulesNil_own : ownKnob Tryz.prog.godebug = none := by kernel_rfl

set_option maxRecDepth 100000 in
theorem rulesNil_lifted (os : Os) (started : os.Started) (H : Type) (enc : TypeId × Value → H) :
    ReturnsInHanded {} Tryz.checked os 9 .any (Rows.rulesNilSpec.pre6 enc Tryz.prog Tryz.f9 Rows.rulesNilRow.domain false) (Rows.rulesNilSpec.post enc Tryz.prog Tryz.f9 false true false false) := by
  refine returnsInHanded_of_change (C := Tryz.checked) rulesNil_own started (by kernel_rfl) Tryz.func9
    (ChangeSpec.witness6 (enc := enc) (C := Tryz.checked) false ⟨#[], #[.int .i64 0, .agg #[.int .i64 0, .int .i64 0, .int .i64 0, .int .i64 0, .int .i64 0, .int .i64 0, .int .i64 0, .int .i64 0, .int .i64 0, .slice none 0 0, .int .i64 0, .bool false, .int .i64 0, .bool false, .int .i64 0, .bool false, .int .i64 0, .bool false, .int .i64 0, .bool false, .int .i64 0, .bool false, .int .i64 0, .bool false, .int .i64 0, .bool false, .int .i64 0, .bool false, .int .i64 0, .bool false, .int .i64 0, .bool false, .int .i64 0, .bool false, .int .i64 0, .int .i64 0, .int .i64 0, .int .i64 0, .int .i64 0, .int .i64 0, .int .i64 0, .int .i64 0, .int .i64 0], .agg #[.int .i64 0, .int .i64 0]], []⟩ 20 (by kernel_rfl) (by kernel_rfl) (by kernel_rfl) (by kernel_rfl)) ?_
  intro W base args ds gs before hval0 hW hcnd _
  have hval : ∀ (j : Nat) t v, Tryz.f9.params[j]? = some t → args[j]? = some v → Value.okWide Tryz.prog W .any base t v := hval0
  have hW2 := hW
  obtain ⟨p, q, hA0, hV, rfl, hfz, hnd⟩ := hW
  have hA : DataW.TrodAll enc Tryz.prog W 0 (fun _ => true) true Tryz.f9.params.toList args.toList ds p := hA0
  rw [Tryz.params9] at hA hval
  obtain ⟨rfl, rfl⟩ := trodVars_none hV
  obtain ⟨avs, ha, hok⟩ := VM.law_args VM.ttok (base := base) rulesNil_leaves (fun j t v h1 h2 => hval j t v (by simpa using h1) (by simpa using h2)) hA
  have ha2 : VM.ARel (fun _ => none) (VM.snap W) avs args := by simpa using ha
  obtain ⟨H1, hrun⟩ := rulesNil_any hok
  have hc := VM.law_calls VM.mixed VM.ftok VM.ttok VM.ntok VM.otok08 hrun (fun b c hb => VM.snap_cells hb) ha2
  refine hc.mono fun e W' ⟨cv, σ', F', he, hv, hb⟩ => ?_
  subst he
  obtain rfl := hv.bool_inv
  have hlenD := VM.trod_len hA
  obtain ⟨e0, e1, e2, rfl⟩ : ∃ e0 e1 e2, ds = [e0, e1, e2] := by
    match ds, hlenD with
    | [e0, e1, e2], _ => exact ⟨e0, e1, e2, rfl⟩
  refine ⟨_, rfl, VM.post_of_only (pa := p) (pv := []) hW2 (fun _ _ _ => ?_) (fun sp hsp => ?_) (fun _ _ => rfl) (fun may => hb.frame may)⟩
  · exact trodAll_mk1 (shut_bool Tryz.underlying4 true)
  · have hg := VM.args_again VM.ttok rulesNil_kids (fun b hlt => hb.block b hlt) (sp := sp) (by intro t ht; revert t; decide) hA (fun x hx => hsp x (List.mem_append_left _ hx))
    have e : Tryz.f9.params.toList = [3, 40, 23] := by rw [Tryz.params9]
    show DataW.TrodAll _ _ _ _ _ _ _ _ _ _
    rw [e]; exact hg

theorem rulesNil_holds : Rows.RulesNilSaid :=
  OpenClaim.holds_of_wide 9 Tryz.f9 rfl rfl rfl rfl rfl rfl rfl ⟨rfl, rfl, rfl, rfl, rfl⟩ rfl rfl rfl rfl rfl (by kernel_rfl) Tryz.func9
    (VM.jf (P := Tryz.checked.prog) (f := 9) (fn := Tryz.f9) (s := Rows.rulesNilSpec) (c := Rows.rulesNilRow) (by kernel_rfl) jlaid jrows (by kernel_rfl) (by kernel_rfl) (by kernel_rfl) (by kernel_rfl) (by kernel_rfl) (by kernel_rfl) rulesNil_jin rulesNil_junf rulesNil_jrec rulesNil_jnam (by kernel_rfl) (by kernel_rfl) (by kernel_rfl) (by kernel_rfl) (by kernel_rfl) (by kernel_rfl) (by kernel_rfl) (by kernel_rfl) (by kernel_rfl) jkeys (by kernel_rfl) jheard jmay jlift (by kernel_rfl) (by kernel_rfl) (by kernel_rfl) (by kernel_rfl) (by kernel_rfl))
    (of_decide_eq_true (by kernel_rfl)) (by unfold Func.isWrapper; first | (rw [if_pos (by decide +kernel)]; kernel_rfl) | (rw [if_neg (by decide +kernel)]; exact ⟨rfl, rfl⟩))
    (fun os started H enc _ => rulesNil_lifted os started H enc)

end Go.Proofs.YtchfpiimkmphjaaGreat

