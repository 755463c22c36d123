/- WorldNil: for every input the call returns true, and its arguments read afterwards as they did. No condition. -/
import Derived.Test.YtchfpiimkmphjaaGreatRun7
import Derived.Test.YtchfpiimkmphjaaGreatOK06
import Derived.Test.YtchfpiimkmphjaaGreatVmL3
import Derived.Test.YtchfpiimkmphjaaGreatVmJf
import Derived.Test.YtchfpiimkmphjaaGreatJp1
import Derived.Test.YtchfpiimkmphjaaGreatJp2
import Derived.Test.YtchfpiimkmphjaaGreatJp3
import Derived.Test.YtchfpiimkmphjaaGreatJl7a
import Derived.Test.YtchfpiimkmphjaaGreatRows
import Derived.ProofKit
namespace Go.Proofs.YtchfpiimkmphjaaGreat
open Go.ChangeShapes Go.WideShapes Go.ChangeAt Go.RowKit

theorem worldNil_leaves : VM.argLs VM.ttc [47, 23, 30, 86, 36, 38, 38] = some [(true, [.int .i64, .int .i64, .int .i64, .int .i64, .slice 2 [.int .i64, .int .i64], .int .i64, .bool, .int .i64, .bool, .int .i64, .bool, .int .i64, .bool, .int .i64, .bool, .int .i64, .bool, .int .i64, .bool, .int .i64, .bool, .int .i64, .bool, .int .i64, .bool, .bool, .int .i64]), (true, [.int .i64, .int .i64]), (true, [.int .i64, .bool, .int .i64, .bool]), (true, [.int .i64, .int .i64, .int .i64, .int .i64, .int .i64, .int .i64, .int .i64, .bool, .int .i64, .bool, .int .i64, .bool, .int .i64, .bool, .int .i64, .bool]), (true, [.int .i64, .int .i64, .int .i64, .int .i64]), (true, [.int .i64, .int .i64]), (true, [.int .i64, .int .i64])] := by kernel_rfl

theorem worldNil_any {avs : List VM.AV} (hok : VM.ArgsOk [(true, [.int .i64, .int .i64, .int .i64, .int .i64, .slice 2 [.int .i64, .int .i64], .int .i64, .bool, .int .i64, .bool, .int .i64, .bool, .int .i64, .bool, .int .i64, .bool, .int .i64, .bool, .int .i64, .bool, .int .i64, .bool, .int .i64, .bool, .int .i64, .bool, .bool, .int .i64]), (true, [.int .i64, .int .i64]), (true, [.int .i64, .bool, .int .i64, .bool]), (true, [.int .i64, .int .i64, .int .i64, .int .i64, .int .i64, .int .i64, .int .i64, .bool, .int .i64, .bool, .int .i64, .bool, .int .i64, .bool, .int .i64, .bool]), (true, [.int .i64, .int .i64, .int .i64, .int .i64]), (true, [.int .i64, .int .i64]), (true, [.int .i64, .int .i64])] avs) : ∃ H1, VM.funA VM.ftc VM.ttc VM.ntc VM.ot06a 1000000 200 (.fn 7) avs VM.H0 = some (.bool true, H1) := by
  obtain ⟨ca0, va0, ea, hz0, hok0⟩ := hok.agg_inv; subst ea; clear hok
  obtain ⟨ca1, va1, ea, hz1, hok1⟩ := hok0.agg_inv; subst ea; clear hok0
  obtain ⟨ca2, va2, ea, hz2, hok2⟩ := hok1.agg_inv; subst ea; clear hok1
  obtain ⟨ca3, va3, ea, hz3, hok3⟩ := hok2.agg_inv; subst ea; clear hok2
  obtain ⟨ca4, va4, ea, hz4, hok4⟩ := hok3.agg_inv; subst ea; clear hok3
  obtain ⟨ca5, va5, ea, hz5, hok5⟩ := hok4.agg_inv; subst ea; clear hok4
  obtain ⟨ca6, va6, ea, hz6, hok6⟩ := hok5.agg_inv; subst ea; clear hok5
  obtain rfl := hok6.inv_nil
  obtain ⟨v, hz0r0, e, hx, hz0_0⟩ := hz0.inv; subst e; clear hz0
  obtain ⟨b_Shape_Kind, rfl, b_Shape_Kind_lo, b_Shape_Kind_hi⟩ := hx.int_inv
  obtain ⟨v, hz0r1, e, hx, hz0_1⟩ := hz0_0.inv; subst e; clear hz0_0
  obtain ⟨b_Shape_R, rfl, b_Shape_R_lo, b_Shape_R_hi⟩ := hx.int_inv
  obtain ⟨v, hz0r2, e, hx, hz0_2⟩ := hz0_1.inv; subst e; clear hz0_1
  obtain ⟨b_Shape_W, rfl, b_Shape_W_lo, b_Shape_W_hi⟩ := hx.int_inv
  obtain ⟨v, hz0r3, e, hx, hz0_3⟩ := hz0_2.inv; subst e; clear hz0_2
  obtain ⟨b_Shape_H, rfl, b_Shape_H_lo, b_Shape_H_hi⟩ := hx.int_inv
  obtain ⟨v, hz0r4, e, hx, hz0_4⟩ := hz0_3.inv; subst e; clear hz0_3
  obtain ⟨b_Shape_Pts, rfl, b_Shape_Pts_es, b_Shape_Pts_len⟩ := hx.slice_inv
  obtain ⟨v, hz0r5, e, hx, hz0_5⟩ := hz0_4.inv; subst e; clear hz0_4
  obtain ⟨b_Pose_At_X_V, rfl, b_Pose_At_X_V_lo, b_Pose_At_X_V_hi⟩ := hx.int_inv
  obtain ⟨v, hz0r6, e, hx, hz0_6⟩ := hz0_5.inv; subst e; clear hz0_5
  obtain ⟨b_Pose_At_X_F, rfl⟩ := hx.bool_inv
  obtain ⟨v, hz0r7, e, hx, hz0_7⟩ := hz0_6.inv; subst e; clear hz0_6
  obtain ⟨b_Pose_At_Y_V, rfl, b_Pose_At_Y_V_lo, b_Pose_At_Y_V_hi⟩ := hx.int_inv
  obtain ⟨v, hz0r8, e, hx, hz0_8⟩ := hz0_7.inv; subst e; clear hz0_7
  obtain ⟨b_Pose_At_Y_F, rfl⟩ := hx.bool_inv
  obtain ⟨v, hz0r9, e, hx, hz0_9⟩ := hz0_8.inv; subst e; clear hz0_8
  obtain ⟨b_Pose_Rot_C_V, rfl, b_Pose_Rot_C_V_lo, b_Pose_Rot_C_V_hi⟩ := hx.int_inv
  obtain ⟨v, hz0r10, e, hx, hz0_10⟩ := hz0_9.inv; subst e; clear hz0_9
  obtain ⟨b_Pose_Rot_C_F, rfl⟩ := hx.bool_inv
  obtain ⟨v, hz0r11, e, hx, hz0_11⟩ := hz0_10.inv; subst e; clear hz0_10
  obtain ⟨b_Pose_Rot_S_V, rfl, b_Pose_Rot_S_V_lo, b_Pose_Rot_S_V_hi⟩ := hx.int_inv
  obtain ⟨v, hz0r12, e, hx, hz0_12⟩ := hz0_11.inv; subst e; clear hz0_11
  obtain ⟨b_Pose_Rot_S_F, rfl⟩ := hx.bool_inv
  obtain ⟨v, hz0r13, e, hx, hz0_13⟩ := hz0_12.inv; subst e; clear hz0_12
  obtain ⟨b_V_X_V, rfl, b_V_X_V_lo, b_V_X_V_hi⟩ := hx.int_inv
  obtain ⟨v, hz0r14, e, hx, hz0_14⟩ := hz0_13.inv; subst e; clear hz0_13
  obtain ⟨b_V_X_F, rfl⟩ := hx.bool_inv
  obtain ⟨v, hz0r15, e, hx, hz0_15⟩ := hz0_14.inv; subst e; clear hz0_14
  obtain ⟨b_V_Y_V, rfl, b_V_Y_V_lo, b_V_Y_V_hi⟩ := hx.int_inv
  obtain ⟨v, hz0r16, e, hx, hz0_16⟩ := hz0_15.inv; subst e; clear hz0_15
  obtain ⟨b_V_Y_F, rfl⟩ := hx.bool_inv
  obtain ⟨v, hz0r17, e, hx, hz0_17⟩ := hz0_16.inv; subst e; clear hz0_16
  obtain ⟨b_W_V, rfl, b_W_V_lo, b_W_V_hi⟩ := hx.int_inv
  obtain ⟨v, hz0r18, e, hx, hz0_18⟩ := hz0_17.inv; subst e; clear hz0_17
  obtain ⟨b_W_F, rfl⟩ := hx.bool_inv
  obtain ⟨v, hz0r19, e, hx, hz0_19⟩ := hz0_18.inv; subst e; clear hz0_18
  obtain ⟨b_Weight_M_V, rfl, b_Weight_M_V_lo, b_Weight_M_V_hi⟩ := hx.int_inv
  obtain ⟨v, hz0r20, e, hx, hz0_20⟩ := hz0_19.inv; subst e; clear hz0_19
  obtain ⟨b_Weight_M_F, rfl⟩ := hx.bool_inv
  obtain ⟨v, hz0r21, e, hx, hz0_21⟩ := hz0_20.inv; subst e; clear hz0_20
  obtain ⟨b_Weight_I_V, rfl, b_Weight_I_V_lo, b_Weight_I_V_hi⟩ := hx.int_inv
  obtain ⟨v, hz0r22, e, hx, hz0_22⟩ := hz0_21.inv; subst e; clear hz0_21
  obtain ⟨b_Weight_I_F, rfl⟩ := hx.bool_inv
  obtain ⟨v, hz0r23, e, hx, hz0_23⟩ := hz0_22.inv; subst e; clear hz0_22
  obtain ⟨b_Still, rfl, b_Still_lo, b_Still_hi⟩ := hx.int_inv
  obtain ⟨v, hz0r24, e, hx, hz0_24⟩ := hz0_23.inv; subst e; clear hz0_23
  obtain ⟨b_Asleep, rfl⟩ := hx.bool_inv
  obtain ⟨v, hz0r25, e, hx, hz0_25⟩ := hz0_24.inv; subst e; clear hz0_24
  obtain ⟨b_Fault, rfl⟩ := hx.bool_inv
  obtain ⟨v, hz0r26, e, hx, hz0_26⟩ := hz0_25.inv; subst e; clear hz0_25
  obtain ⟨b_Version, rfl, b_Version_lo, b_Version_hi⟩ := hx.int_inv
  obtain rfl := hz0_26.inv_nil
  obtain ⟨v, hz1r0, e, hx, hz1_0⟩ := hz1.inv; subst e; clear hz1
  obtain ⟨h_Slot, rfl, h_Slot_lo, h_Slot_hi⟩ := hx.int_inv
  obtain ⟨v, hz1r1, e, hx, hz1_1⟩ := hz1_0.inv; subst e; clear hz1_0
  obtain ⟨h_Gen, rfl, h_Gen_lo, h_Gen_hi⟩ := hx.int_inv
  obtain rfl := hz1_1.inv_nil
  obtain ⟨v, hz2r0, e, hx, hz2_0⟩ := hz2.inv; subst e; clear hz2
  obtain ⟨atQ_X_V, rfl, atQ_X_V_lo, atQ_X_V_hi⟩ := hx.int_inv
  obtain ⟨v, hz2r1, e, hx, hz2_1⟩ := hz2_0.inv; subst e; clear hz2_0
  obtain ⟨atQ_X_F, rfl⟩ := hx.bool_inv
  obtain ⟨v, hz2r2, e, hx, hz2_2⟩ := hz2_1.inv; subst e; clear hz2_1
  obtain ⟨atQ_Y_V, rfl, atQ_Y_V_lo, atQ_Y_V_hi⟩ := hx.int_inv
  obtain ⟨v, hz2r3, e, hx, hz2_3⟩ := hz2_2.inv; subst e; clear hz2_2
  obtain ⟨atQ_Y_F, rfl⟩ := hx.bool_inv
  obtain rfl := hz2_3.inv_nil
  obtain ⟨v, hz3r0, e, hx, hz3_0⟩ := hz3.inv; subst e; clear hz3
  obtain ⟨t_Id, rfl, t_Id_lo, t_Id_hi⟩ := hx.int_inv
  obtain ⟨v, hz3r1, e, hx, hz3_1⟩ := hz3_0.inv; subst e; clear hz3_0
  obtain ⟨t_Kind, rfl, t_Kind_lo, t_Kind_hi⟩ := hx.int_inv
  obtain ⟨v, hz3r2, e, hx, hz3_2⟩ := hz3_1.inv; subst e; clear hz3_1
  obtain ⟨t_A_Slot, rfl, t_A_Slot_lo, t_A_Slot_hi⟩ := hx.int_inv
  obtain ⟨v, hz3r3, e, hx, hz3_3⟩ := hz3_2.inv; subst e; clear hz3_2
  obtain ⟨t_A_Gen, rfl, t_A_Gen_lo, t_A_Gen_hi⟩ := hx.int_inv
  obtain ⟨v, hz3r4, e, hx, hz3_4⟩ := hz3_3.inv; subst e; clear hz3_3
  obtain ⟨t_B_Slot, rfl, t_B_Slot_lo, t_B_Slot_hi⟩ := hx.int_inv
  obtain ⟨v, hz3r5, e, hx, hz3_5⟩ := hz3_4.inv; subst e; clear hz3_4
  obtain ⟨t_B_Gen, rfl, t_B_Gen_lo, t_B_Gen_hi⟩ := hx.int_inv
  obtain ⟨v, hz3r6, e, hx, hz3_6⟩ := hz3_5.inv; subst e; clear hz3_5
  obtain ⟨t_PA_X_V, rfl, t_PA_X_V_lo, t_PA_X_V_hi⟩ := hx.int_inv
  obtain ⟨v, hz3r7, e, hx, hz3_7⟩ := hz3_6.inv; subst e; clear hz3_6
  obtain ⟨t_PA_X_F, rfl⟩ := hx.bool_inv
  obtain ⟨v, hz3r8, e, hx, hz3_8⟩ := hz3_7.inv; subst e; clear hz3_7
  obtain ⟨t_PA_Y_V, rfl, t_PA_Y_V_lo, t_PA_Y_V_hi⟩ := hx.int_inv
  obtain ⟨v, hz3r9, e, hx, hz3_9⟩ := hz3_8.inv; subst e; clear hz3_8
  obtain ⟨t_PA_Y_F, rfl⟩ := hx.bool_inv
  obtain ⟨v, hz3r10, e, hx, hz3_10⟩ := hz3_9.inv; subst e; clear hz3_9
  obtain ⟨t_PB_X_V, rfl, t_PB_X_V_lo, t_PB_X_V_hi⟩ := hx.int_inv
  obtain ⟨v, hz3r11, e, hx, hz3_11⟩ := hz3_10.inv; subst e; clear hz3_10
  obtain ⟨t_PB_X_F, rfl⟩ := hx.bool_inv
  obtain ⟨v, hz3r12, e, hx, hz3_12⟩ := hz3_11.inv; subst e; clear hz3_11
  obtain ⟨t_PB_Y_V, rfl, t_PB_Y_V_lo, t_PB_Y_V_hi⟩ := hx.int_inv
  obtain ⟨v, hz3r13, e, hx, hz3_13⟩ := hz3_12.inv; subst e; clear hz3_12
  obtain ⟨t_PB_Y_F, rfl⟩ := hx.bool_inv
  obtain ⟨v, hz3r14, e, hx, hz3_14⟩ := hz3_13.inv; subst e; clear hz3_13
  obtain ⟨t_Len_V, rfl, t_Len_V_lo, t_Len_V_hi⟩ := hx.int_inv
  obtain ⟨v, hz3r15, e, hx, hz3_15⟩ := hz3_14.inv; subst e; clear hz3_14
  obtain ⟨t_Len_F, rfl⟩ := hx.bool_inv
  obtain rfl := hz3_15.inv_nil
  obtain ⟨v, hz4r0, e, hx, hz4_0⟩ := hz4.inv; subst e; clear hz4
  obtain ⟨box_X0, rfl, box_X0_lo, box_X0_hi⟩ := hx.int_inv
  obtain ⟨v, hz4r1, e, hx, hz4_1⟩ := hz4_0.inv; subst e; clear hz4_0
  obtain ⟨box_Y0, rfl, box_Y0_lo, box_Y0_hi⟩ := hx.int_inv
  obtain ⟨v, hz4r2, e, hx, hz4_2⟩ := hz4_1.inv; subst e; clear hz4_1
  obtain ⟨box_X1, rfl, box_X1_lo, box_X1_hi⟩ := hx.int_inv
  obtain ⟨v, hz4r3, e, hx, hz4_3⟩ := hz4_2.inv; subst e; clear hz4_2
  obtain ⟨box_Y1, rfl, box_Y1_lo, box_Y1_hi⟩ := hx.int_inv
  obtain rfl := hz4_3.inv_nil
  obtain ⟨v, hz5r0, e, hx, hz5_0⟩ := hz5.inv; subst e; clear hz5
  obtain ⟨fromQ_X, rfl, fromQ_X_lo, fromQ_X_hi⟩ := hx.int_inv
  obtain ⟨v, hz5r1, e, hx, hz5_1⟩ := hz5_0.inv; subst e; clear hz5_0
  obtain ⟨fromQ_Y, rfl, fromQ_Y_lo, fromQ_Y_hi⟩ := hx.int_inv
  obtain rfl := hz5_1.inv_nil
  obtain ⟨v, hz6r0, e, hx, hz6_0⟩ := hz6.inv; subst e; clear hz6
  obtain ⟨toQ_X, rfl, toQ_X_lo, toQ_X_hi⟩ := hx.int_inv
  obtain ⟨v, hz6r1, e, hx, hz6_1⟩ := hz6_0.inv; subst e; clear hz6_0
  obtain ⟨toQ_Y, rfl, toQ_Y_lo, toQ_Y_hi⟩ := hx.int_inv
  obtain rfl := hz6_1.inv_nil
  exact VM.run7 b_Shape_Kind b_Shape_R b_Shape_W b_Shape_H b_Pose_At_X_V b_Pose_At_Y_V b_Pose_Rot_C_V b_Pose_Rot_S_V b_V_X_V b_V_Y_V b_W_V b_Weight_M_V b_Weight_I_V b_Still b_Version b_Pose_At_X_F b_Pose_At_Y_F b_Pose_Rot_C_F b_Pose_Rot_S_F b_V_X_F b_V_Y_F b_W_F b_Weight_M_F b_Weight_I_F b_Asleep b_Fault b_Shape_Pts h_Slot h_Gen atQ_X_V atQ_Y_V atQ_X_F atQ_Y_F t_Id t_Kind t_A_Slot t_A_Gen t_B_Slot t_B_Gen t_PA_X_V t_PA_Y_V t_PB_X_V t_PB_Y_V t_Len_V t_PA_X_F t_PA_Y_F t_PB_X_F t_PB_Y_F t_Len_F box_X0 box_Y0 box_X1 box_Y1 fromQ_X fromQ_Y toQ_X toQ_Y 

theorem worldNil_kids : VM.allN (VM.kidB VM.ttc [2, 3, 4, 23, 24, 26, 28, 30, 32, 34, 36, 38, 45, 47, 86]) [2, 3, 4, 23, 24, 26, 28, 30, 32, 34, 36, 38, 45, 47, 86] = true := by kernel_rfl

theorem worldNil_own : ownKnob Tryz.prog.godebug = none := by kernel_rfl

set_option maxRecDepth 100000 in
theorem worldNil_lifted (os : Os) (started : os.Started) (H : Type) (enc : TypeId × Value → H) :
    ReturnsInHanded {} Tryz.checked os 7 .any (Rows.worldNilSpec.pre6 enc Tryz.prog Tryz.f7 Rows.worldNilRow.domain false) (Rows.worldNilSpec.post enc Tryz.prog Tryz.f7 false true false false) := by
  refine returnsInHanded_of_change (C := Tryz.checked) worldNil_own started (by kernel_rfl) Tryz.func7
    (ChangeSpec.witness6 (enc := enc) (C := Tryz.checked) false ⟨#[], #[.agg #[.int .i64 0, .int .i64 0, .int .i64 0, .int .i64 0, .slice none 0 0, .int .i64 0, .bool false, .int .i64 0, .bool false, .int .i64 0, .bool false, .int .i64 0, .bool false, .int .i64 0, .bool false, .int .i64 0, .bool false, .int .i64 0, .bool false, .int .i64 0, .bool false, .int .i64 0, .bool false, .int .i64 0, .bool false, .bool false, .int .i64 0], .agg #[.int .i64 0, .int .i64 0], .agg #[.int .i64 0, .bool false, .int .i64 0, .bool false], .agg #[.int .i64 0, .int .i64 0, .int .i64 0, .int .i64 0, .int .i64 0, .int .i64 0, .int .i64 0, .bool false, .int .i64 0, .bool false, .int .i64 0, .bool false, .int .i64 0, .bool false, .int .i64 0, .bool false], .agg #[.int .i64 0, .int .i64 0, .int .i64 0, .int .i64 0], .agg #[.int .i64 0, .int .i64 0], .agg #[.int .i64 0, .int .i64 0]], []⟩ 20 (by kernel_rfl) (by kernel_rfl) (by kernel_rfl) (by kernel_rfl)) ?_
  intro W base args ds gs before hval0 hW hcnd _
  have hval : ∀ (j : Nat) t v, Tryz.f7.params[j]? = some t → args[j]? = some v → Value.okWide Tryz.prog W .any base t v := hval0
  have hW2 := hW
  obtain ⟨p, q, hA0, hV, rfl, hfz, hnd⟩ := hW
  have hA : DataW.TrodAll enc Tryz.prog W 0 (fun _ => true) true Tryz.f7.params.toList args.toList ds p := hA0
  rw [Tryz.params7] at hA hval
  obtain ⟨rfl, rfl⟩ := trodVars_none hV
  obtain ⟨avs, ha, hok⟩ := VM.law_args VM.ttok (base := base) worldNil_leaves (fun j t v h1 h2 => hval j t v (by simpa using h1) (by simpa using h2)) hA
  have ha2 : VM.ARel (fun _ => none) (VM.snap W) avs args := by simpa using ha
  obtain ⟨H1, hrun⟩ := worldNil_any hok
  have hc := VM.law_calls VM.mixed VM.ftok VM.ttok VM.ntok VM.otok06a hrun (fun b c hb => VM.snap_cells hb) ha2
  refine hc.mono fun e W' ⟨cv, σ', F', he, hv, hb⟩ => ?_
  subst he
  obtain rfl := hv.bool_inv
  have hlenD := VM.trod_len hA
  obtain ⟨e0, e1, e2, e3, e4, e5, e6, rfl⟩ : ∃ e0 e1 e2 e3 e4 e5 e6, ds = [e0, e1, e2, e3, e4, e5, e6] := by
    match ds, hlenD with
    | [e0, e1, e2, e3, e4, e5, e6], _ => exact ⟨e0, e1, e2, e3, e4, e5, e6, rfl⟩
  refine ⟨_, rfl, VM.post_of_only (pa := p) (pv := []) hW2 (fun _ _ _ => ?_) (fun sp hsp => ?_) (fun _ _ => rfl) (fun may => hb.frame may)⟩
  · exact trodAll_mk1 (shut_bool Tryz.underlying4 true)
  · have hg := VM.args_again VM.ttok worldNil_kids (fun b hlt => hb.block b hlt) (sp := sp) (by intro t ht; revert t; decide) hA (fun x hx => hsp x (List.mem_append_left _ hx))
    have e : Tryz.f7.params.toList = [47, 23, 30, 86, 36, 38, 38] := by rw [Tryz.params7]
    show DataW.TrodAll _ _ _ _ _ _ _ _ _ _
    rw [e]; exact hg

theorem worldNil_holds : Rows.WorldNilSaid :=
  OpenClaim.holds_of_wide 7 Tryz.f7 rfl rfl rfl rfl rfl rfl rfl ⟨rfl, rfl, rfl, rfl, rfl⟩ rfl rfl rfl rfl rfl (by kernel_rfl) Tryz.func7
    (VM.jf (P := Tryz.checked.prog) (f := 7) (fn := Tryz.f7) (s := Rows.worldNilSpec) (c := Rows.worldNilRow) (by kernel_rfl) jlaid jrows (by kernel_rfl) (by kernel_rfl) (by kernel_rfl) (by kernel_rfl) (by kernel_rfl) (by kernel_rfl) worldNil_jin worldNil_junf worldNil_jrec worldNil_jnam (by kernel_rfl) (by kernel_rfl) (by kernel_rfl) (by kernel_rfl) (by kernel_rfl) (by kernel_rfl) (by kernel_rfl) (by kernel_rfl) (by kernel_rfl) jkeys (by kernel_rfl) jheard jmay jlift (by kernel_rfl) (by kernel_rfl) (by kernel_rfl) (by kernel_rfl) (by kernel_rfl))
    (of_decide_eq_true (by kernel_rfl)) (by unfold Func.isWrapper; first | (rw [if_pos (by decide +kernel)]; kernel_rfl) | (rw [if_neg (by decide +kernel)]; exact ⟨rfl, rfl⟩))
    (fun os started H enc _ => worldNil_lifted os started H enc)

end Go.Proofs.YtchfpiimkmphjaaGreat

