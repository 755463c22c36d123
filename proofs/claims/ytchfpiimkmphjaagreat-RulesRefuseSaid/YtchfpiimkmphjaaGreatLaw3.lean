/- RulesRefuse: for every input the call returns true, and its arguments read afterwards as they did. No condition. -/
import Derived.Test.YtchfpiimkmphjaaGreatRun3
import Derived.Test.YtchfpiimkmphjaaGreatOK08
import Derived.Test.YtchfpiimkmphjaaGreatVmL3
import Derived.Test.YtchfpiimkmphjaaGreatVmJf
import Derived.Test.YtchfpiimkmphjaaGreatJp1
import Derived.Test.YtchfpiimkmphjaaGreatJp2
import Derived.Test.YtchfpiimkmphjaaGreatJp3
import Derived.Test.YtchfpiimkmphjaaGreatJl3a
import Derived.Test.YtchfpiimkmphjaaGreatRows
import Derived.ProofKit
namespace Go.Proofs.YtchfpiimkmphjaaGreat
open Go.ChangeShapes Go.WideShapes Go.ChangeAt Go.RowKit

theorem rulesRefuse_leaves : VM.argLs VM.ttc [40, 41, 3] = some [(true, [.int .i64, .int .i64, .int .i64, .int .i64, .int .i64, .int .i64, .int .i64, .int .i64, .int .i64, .slice 2 [.int .i64, .int .i64], .int .i64, .bool, .int .i64, .bool, .int .i64, .bool, .int .i64, .bool, .int .i64, .bool, .int .i64, .bool, .int .i64, .bool, .int .i64, .bool, .int .i64, .bool, .int .i64, .bool, .int .i64, .bool, .int .i64, .bool, .int .i64, .int .i64, .int .i64, .int .i64, .int .i64, .int .i64, .int .i64, .int .i64, .int .i64]), (false, [.int .i64]), (false, [.int .i64])] := by kernel_rfl

theorem rulesRefuse_any {avs : List VM.AV} (hok : VM.ArgsOk [(true, [.int .i64, .int .i64, .int .i64, .int .i64, .int .i64, .int .i64, .int .i64, .int .i64, .int .i64, .slice 2 [.int .i64, .int .i64], .int .i64, .bool, .int .i64, .bool, .int .i64, .bool, .int .i64, .bool, .int .i64, .bool, .int .i64, .bool, .int .i64, .bool, .int .i64, .bool, .int .i64, .bool, .int .i64, .bool, .int .i64, .bool, .int .i64, .bool, .int .i64, .int .i64, .int .i64, .int .i64, .int .i64, .int .i64, .int .i64, .int .i64, .int .i64]), (false, [.int .i64]), (false, [.int .i64])] avs) : ∃ H1, VM.funA VM.ftc VM.ttc VM.ntc VM.ot08 1000000 200 (.fn 3) avs VM.H0 = some (.bool true, H1) := by
  obtain ⟨ca0, va0, ea, hz0, hok0⟩ := hok.agg_inv; subst ea; clear hok
  obtain ⟨ca1, va1, ea, hz1, hok1⟩ := hok0.one_inv; subst ea; clear hok0
  obtain ⟨ca2, va2, ea, hz2, hok2⟩ := hok1.one_inv; subst ea; clear hok1
  obtain rfl := hok2.inv_nil
  obtain ⟨v, hz0r0, e, hx, hz0_0⟩ := hz0.inv; subst e; clear hz0
  obtain ⟨c_Kind, rfl, c_Kind_lo, c_Kind_hi⟩ := hx.int_inv
  obtain ⟨v, hz0r1, e, hx, hz0_1⟩ := hz0_0.inv; subst e; clear hz0_0
  obtain ⟨c_Id, rfl, c_Id_lo, c_Id_hi⟩ := hx.int_inv
  obtain ⟨v, hz0r2, e, hx, hz0_2⟩ := hz0_1.inv; subst e; clear hz0_1
  obtain ⟨c_Body_Slot, rfl, c_Body_Slot_lo, c_Body_Slot_hi⟩ := hx.int_inv
  obtain ⟨v, hz0r3, e, hx, hz0_3⟩ := hz0_2.inv; subst e; clear hz0_2
  obtain ⟨c_Body_Gen, rfl, c_Body_Gen_lo, c_Body_Gen_hi⟩ := hx.int_inv
  obtain ⟨v, hz0r4, e, hx, hz0_4⟩ := hz0_3.inv; subst e; clear hz0_3
  obtain ⟨c_Version, rfl, c_Version_lo, c_Version_hi⟩ := hx.int_inv
  obtain ⟨v, hz0r5, e, hx, hz0_5⟩ := hz0_4.inv; subst e; clear hz0_4
  obtain ⟨c_Shape_Kind, rfl, c_Shape_Kind_lo, c_Shape_Kind_hi⟩ := hx.int_inv
  obtain ⟨v, hz0r6, e, hx, hz0_6⟩ := hz0_5.inv; subst e; clear hz0_5
  obtain ⟨c_Shape_R, rfl, c_Shape_R_lo, c_Shape_R_hi⟩ := hx.int_inv
  obtain ⟨v, hz0r7, e, hx, hz0_7⟩ := hz0_6.inv; subst e; clear hz0_6
  obtain ⟨c_Shape_W, rfl, c_Shape_W_lo, c_Shape_W_hi⟩ := hx.int_inv
  obtain ⟨v, hz0r8, e, hx, hz0_8⟩ := hz0_7.inv; subst e; clear hz0_7
  obtain ⟨c_Shape_H, rfl, c_Shape_H_lo, c_Shape_H_hi⟩ := hx.int_inv
  obtain ⟨v, hz0r9, e, hx, hz0_9⟩ := hz0_8.inv; subst e; clear hz0_8
  obtain ⟨c_Shape_Pts, rfl, c_Shape_Pts_es, c_Shape_Pts_len⟩ := hx.slice_inv
  obtain ⟨v, hz0r10, e, hx, hz0_10⟩ := hz0_9.inv; subst e; clear hz0_9
  obtain ⟨c_Pose_At_X_V, rfl, c_Pose_At_X_V_lo, c_Pose_At_X_V_hi⟩ := hx.int_inv
  obtain ⟨v, hz0r11, e, hx, hz0_11⟩ := hz0_10.inv; subst e; clear hz0_10
  obtain ⟨c_Pose_At_X_F, rfl⟩ := hx.bool_inv
  obtain ⟨v, hz0r12, e, hx, hz0_12⟩ := hz0_11.inv; subst e; clear hz0_11
  obtain ⟨c_Pose_At_Y_V, rfl, c_Pose_At_Y_V_lo, c_Pose_At_Y_V_hi⟩ := hx.int_inv
  obtain ⟨v, hz0r13, e, hx, hz0_13⟩ := hz0_12.inv; subst e; clear hz0_12
  obtain ⟨c_Pose_At_Y_F, rfl⟩ := hx.bool_inv
  obtain ⟨v, hz0r14, e, hx, hz0_14⟩ := hz0_13.inv; subst e; clear hz0_13
  obtain ⟨c_Pose_Rot_C_V, rfl, c_Pose_Rot_C_V_lo, c_Pose_Rot_C_V_hi⟩ := hx.int_inv
  obtain ⟨v, hz0r15, e, hx, hz0_15⟩ := hz0_14.inv; subst e; clear hz0_14
  obtain ⟨c_Pose_Rot_C_F, rfl⟩ := hx.bool_inv
  obtain ⟨v, hz0r16, e, hx, hz0_16⟩ := hz0_15.inv; subst e; clear hz0_15
  obtain ⟨c_Pose_Rot_S_V, rfl, c_Pose_Rot_S_V_lo, c_Pose_Rot_S_V_hi⟩ := hx.int_inv
  obtain ⟨v, hz0r17, e, hx, hz0_17⟩ := hz0_16.inv; subst e; clear hz0_16
  obtain ⟨c_Pose_Rot_S_F, rfl⟩ := hx.bool_inv
  obtain ⟨v, hz0r18, e, hx, hz0_18⟩ := hz0_17.inv; subst e; clear hz0_17
  obtain ⟨c_V_X_V, rfl, c_V_X_V_lo, c_V_X_V_hi⟩ := hx.int_inv
  obtain ⟨v, hz0r19, e, hx, hz0_19⟩ := hz0_18.inv; subst e; clear hz0_18
  obtain ⟨c_V_X_F, rfl⟩ := hx.bool_inv
  obtain ⟨v, hz0r20, e, hx, hz0_20⟩ := hz0_19.inv; subst e; clear hz0_19
  obtain ⟨c_V_Y_V, rfl, c_V_Y_V_lo, c_V_Y_V_hi⟩ := hx.int_inv
  obtain ⟨v, hz0r21, e, hx, hz0_21⟩ := hz0_20.inv; subst e; clear hz0_20
  obtain ⟨c_V_Y_F, rfl⟩ := hx.bool_inv
  obtain ⟨v, hz0r22, e, hx, hz0_22⟩ := hz0_21.inv; subst e; clear hz0_21
  obtain ⟨c_W_V, rfl, c_W_V_lo, c_W_V_hi⟩ := hx.int_inv
  obtain ⟨v, hz0r23, e, hx, hz0_23⟩ := hz0_22.inv; subst e; clear hz0_22
  obtain ⟨c_W_F, rfl⟩ := hx.bool_inv
  obtain ⟨v, hz0r24, e, hx, hz0_24⟩ := hz0_23.inv; subst e; clear hz0_23
  obtain ⟨c_Density, rfl, c_Density_lo, c_Density_hi⟩ := hx.int_inv
  obtain ⟨v, hz0r25, e, hx, hz0_25⟩ := hz0_24.inv; subst e; clear hz0_24
  obtain ⟨c_Moves, rfl⟩ := hx.bool_inv
  obtain ⟨v, hz0r26, e, hx, hz0_26⟩ := hz0_25.inv; subst e; clear hz0_25
  obtain ⟨c_At_X_V, rfl, c_At_X_V_lo, c_At_X_V_hi⟩ := hx.int_inv
  obtain ⟨v, hz0r27, e, hx, hz0_27⟩ := hz0_26.inv; subst e; clear hz0_26
  obtain ⟨c_At_X_F, rfl⟩ := hx.bool_inv
  obtain ⟨v, hz0r28, e, hx, hz0_28⟩ := hz0_27.inv; subst e; clear hz0_27
  obtain ⟨c_At_Y_V, rfl, c_At_Y_V_lo, c_At_Y_V_hi⟩ := hx.int_inv
  obtain ⟨v, hz0r29, e, hx, hz0_29⟩ := hz0_28.inv; subst e; clear hz0_28
  obtain ⟨c_At_Y_F, rfl⟩ := hx.bool_inv
  obtain ⟨v, hz0r30, e, hx, hz0_30⟩ := hz0_29.inv; subst e; clear hz0_29
  obtain ⟨c_To_X_V, rfl, c_To_X_V_lo, c_To_X_V_hi⟩ := hx.int_inv
  obtain ⟨v, hz0r31, e, hx, hz0_31⟩ := hz0_30.inv; subst e; clear hz0_30
  obtain ⟨c_To_X_F, rfl⟩ := hx.bool_inv
  obtain ⟨v, hz0r32, e, hx, hz0_32⟩ := hz0_31.inv; subst e; clear hz0_31
  obtain ⟨c_To_Y_V, rfl, c_To_Y_V_lo, c_To_Y_V_hi⟩ := hx.int_inv
  obtain ⟨v, hz0r33, e, hx, hz0_33⟩ := hz0_32.inv; subst e; clear hz0_32
  obtain ⟨c_To_Y_F, rfl⟩ := hx.bool_inv
  obtain ⟨v, hz0r34, e, hx, hz0_34⟩ := hz0_33.inv; subst e; clear hz0_33
  obtain ⟨c_Grab, rfl, c_Grab_lo, c_Grab_hi⟩ := hx.int_inv
  obtain ⟨v, hz0r35, e, hx, hz0_35⟩ := hz0_34.inv; subst e; clear hz0_34
  obtain ⟨c_Box_X0, rfl, c_Box_X0_lo, c_Box_X0_hi⟩ := hx.int_inv
  obtain ⟨v, hz0r36, e, hx, hz0_36⟩ := hz0_35.inv; subst e; clear hz0_35
  obtain ⟨c_Box_Y0, rfl, c_Box_Y0_lo, c_Box_Y0_hi⟩ := hx.int_inv
  obtain ⟨v, hz0r37, e, hx, hz0_37⟩ := hz0_36.inv; subst e; clear hz0_36
  obtain ⟨c_Box_X1, rfl, c_Box_X1_lo, c_Box_X1_hi⟩ := hx.int_inv
  obtain ⟨v, hz0r38, e, hx, hz0_38⟩ := hz0_37.inv; subst e; clear hz0_37
  obtain ⟨c_Box_Y1, rfl, c_Box_Y1_lo, c_Box_Y1_hi⟩ := hx.int_inv
  obtain ⟨v, hz0r39, e, hx, hz0_39⟩ := hz0_38.inv; subst e; clear hz0_38
  obtain ⟨c_From_X, rfl, c_From_X_lo, c_From_X_hi⟩ := hx.int_inv
  obtain ⟨v, hz0r40, e, hx, hz0_40⟩ := hz0_39.inv; subst e; clear hz0_39
  obtain ⟨c_From_Y, rfl, c_From_Y_lo, c_From_Y_hi⟩ := hx.int_inv
  obtain ⟨v, hz0r41, e, hx, hz0_41⟩ := hz0_40.inv; subst e; clear hz0_40
  obtain ⟨c_Until_X, rfl, c_Until_X_lo, c_Until_X_hi⟩ := hx.int_inv
  obtain ⟨v, hz0r42, e, hx, hz0_42⟩ := hz0_41.inv; subst e; clear hz0_41
  obtain ⟨c_Until_Y, rfl, c_Until_Y_lo, c_Until_Y_hi⟩ := hx.int_inv
  obtain rfl := hz0_42.inv_nil
  obtain ⟨e, rfl, e_lo, e_hi⟩ := hz1.int_inv
  obtain ⟨kind, rfl, kind_lo, kind_hi⟩ := hz2.int_inv
  exact VM.run3 c_Kind c_Id c_Body_Slot c_Body_Gen c_Version c_Shape_Kind c_Shape_R c_Shape_W c_Shape_H c_Pose_At_X_V c_Pose_At_Y_V c_Pose_Rot_C_V c_Pose_Rot_S_V c_V_X_V c_V_Y_V c_W_V c_Density c_At_X_V c_At_Y_V c_To_X_V c_To_Y_V c_Grab c_Box_X0 c_Box_Y0 c_Box_X1 c_Box_Y1 c_From_X c_From_Y c_Until_X c_Until_Y c_Pose_At_X_F c_Pose_At_Y_F c_Pose_Rot_C_F c_Pose_Rot_S_F c_V_X_F c_V_Y_F c_W_F c_Moves c_At_X_F c_At_Y_F c_To_X_F c_To_Y_F c_Shape_Pts e kind c_Kind_lo c_Kind_hi c_Id_lo c_Id_hi c_Body_Slot_lo c_Body_Slot_hi c_Body_Gen_lo c_Body_Gen_hi c_Version_lo c_Version_hi c_Shape_Kind_lo c_Shape_Kind_hi c_Shape_R_lo c_Shape_R_hi c_Shape_W_lo c_Shape_W_hi c_Shape_H_lo c_Shape_H_hi c_Shape_Pts_es c_Shape_Pts_len c_Pose_At_X_V_lo c_Pose_At_X_V_hi c_Pose_At_Y_V_lo c_Pose_At_Y_V_hi c_Pose_Rot_C_V_lo c_Pose_Rot_C_V_hi c_Pose_Rot_S_V_lo c_Pose_Rot_S_V_hi c_V_X_V_lo c_V_X_V_hi c_V_Y_V_lo c_V_Y_V_hi c_W_V_lo c_W_V_hi c_Density_lo c_Density_hi c_At_X_V_lo c_At_X_V_hi c_At_Y_V_lo c_At_Y_V_hi c_To_X_V_lo c_To_X_V_hi c_To_Y_V_lo c_To_Y_V_hi c_Grab_lo c_Grab_hi c_Box_X0_lo c_Box_X0_hi c_Box_Y0_lo c_Box_Y0_hi c_Box_X1_lo c_Box_X1_hi c_Box_Y1_lo c_Box_Y1_hi c_From_X_lo c_From_X_hi c_From_Y_lo c_From_Y_hi c_Until_X_lo c_Until_X_hi c_Until_Y_lo c_Until_Y_hi e_lo e_hi kind_lo kind_hi

theorem rulesRefuse_kids : VM.allN (VM.kidB VM.ttc [2, 3, 4, 23, 24, 26, 28, 30, 32, 34, 36, 38, 40, 41]) [2, 3, 4, 23, 24, 26, 28, 30, 32, 34, 36, 38, 40, 41] = true := by kernel_rfl

theorem rulesRefuse_own : ownKnob Tryz.prog.godebug = none := by kernel_rfl

set_option maxRecDepth 100000 in
theorem rulesRefuse_lifted (os : Os) (started : os.Started) (H : Type) (enc : TypeId × Value → H) :
    ReturnsInHanded {} Tryz.checked os 3 .any (Rows.rulesRefuseSpec.pre6 enc Tryz.prog Tryz.f3 Rows.rulesRefuseRow.domain false) (Rows.rulesRefuseSpec.post enc Tryz.prog Tryz.f3 false true false false) := by
  refine returnsInHanded_of_change (C := Tryz.checked) rulesRefuse_own started (by kernel_rfl) Tryz.func3
    (ChangeSpec.witness6 (enc := enc) (C := Tryz.checked) false ⟨#[], #[.agg #[.int .i64 0, .int .i64 0, .int .i64 0, .int .i64 0, .int .i64 0, .int .i64 0, .int .i64 0, .int .i64 0, .int .i64 0, .slice none 0 0, .int .i64 0, .bool false, .int .i64 0, .bool false, .int .i64 0, .bool false, .int .i64 0, .bool false, .int .i64 0, .bool false, .int .i64 0, .bool false, .int .i64 0, .bool false, .int .i64 0, .bool false, .int .i64 0, .bool false, .int .i64 0, .bool false, .int .i64 0, .bool false, .int .i64 0, .bool false, .int .i64 0, .int .i64 0, .int .i64 0, .int .i64 0, .int .i64 0, .int .i64 0, .int .i64 0, .int .i64 0, .int .i64 0], .int .i64 0, .int .i64 0], []⟩ 20 (by kernel_rfl) (by kernel_rfl) (by kernel_rfl) (by kernel_rfl)) ?_
  intro W base args ds gs before hval0 hW hcnd _
  have hval : ∀ (j : Nat) t v, Tryz.f3.params[j]? = some t → args[j]? = some v → Value.okWide Tryz.prog W .any base t v := hval0
  have hW2 := hW
  obtain ⟨p, q, hA0, hV, rfl, hfz, hnd⟩ := hW
  have hA : DataW.TrodAll enc Tryz.prog W 0 (fun _ => true) true Tryz.f3.params.toList args.toList ds p := hA0
  rw [Tryz.params3] at hA hval
  obtain ⟨rfl, rfl⟩ := trodVars_none hV
  obtain ⟨avs, ha, hok⟩ := VM.law_args VM.ttok (base := base) rulesRefuse_leaves (fun j t v h1 h2 => hval j t v (by simpa using h1) (by simpa using h2)) hA
  have ha2 : VM.ARel (fun _ => none) (VM.snap W) avs args := by simpa using ha
  obtain ⟨H1, hrun⟩ := rulesRefuse_any hok
  have hc := VM.law_calls VM.mixed VM.ftok VM.ttok VM.ntok VM.otok08 hrun (fun b c hb => VM.snap_cells hb) ha2
  refine hc.mono fun e W' ⟨cv, σ', F', he, hv, hb⟩ => ?_
  subst he
  obtain rfl := hv.bool_inv
  have hlenD := VM.trod_len hA
  obtain ⟨e0, e1, e2, rfl⟩ : ∃ e0 e1 e2, ds = [e0, e1, e2] := by
    match ds, hlenD with
    | [e0, e1, e2], _ => exact ⟨e0, e1, e2, rfl⟩
  refine ⟨_, rfl, VM.post_of_only (pa := p) (pv := []) hW2 (fun _ _ _ => ?_) (fun sp hsp => ?_) (fun _ _ => rfl) (fun may => hb.frame may)⟩
  · exact trodAll_mk1 (shut_bool Tryz.underlying4 true)
  · have hg := VM.args_again VM.ttok rulesRefuse_kids (fun b hlt => hb.block b hlt) (sp := sp) (by intro t ht; revert t; decide) hA (fun x hx => hsp x (List.mem_append_left _ hx))
    have e : Tryz.f3.params.toList = [40, 41, 3] := by rw [Tryz.params3]
    show DataW.TrodAll _ _ _ _ _ _ _ _ _ _
    rw [e]; exact hg

theorem rulesRefuse_holds : Rows.RulesRefuseSaid :=
  OpenClaim.holds_of_wide 3 Tryz.f3 rfl rfl rfl rfl rfl rfl rfl ⟨rfl, rfl, rfl, rfl, rfl⟩ rfl rfl rfl rfl rfl (by kernel_rfl) Tryz.func3
    (VM.jf (P := Tryz.checked.prog) (f := 3) (fn := Tryz.f3) (s := Rows.rulesRefuseSpec) (c := Rows.rulesRefuseRow) (by kernel_rfl) jlaid jrows (by kernel_rfl) (by kernel_rfl) (by kernel_rfl) (by kernel_rfl) (by kernel_rfl) (by kernel_rfl) rulesRefuse_jin rulesRefuse_junf rulesRefuse_jrec rulesRefuse_jnam (by kernel_rfl) (by kernel_rfl) (by kernel_rfl) (by kernel_rfl) (by kernel_rfl) (by kernel_rfl) (by kernel_rfl) (by kernel_rfl) (by kernel_rfl) jkeys (by kernel_rfl) jheard jmay jlift (by kernel_rfl) (by kernel_rfl) (by kernel_rfl) (by kernel_rfl) (by kernel_rfl))
    (of_decide_eq_true (by kernel_rfl)) (by unfold Func.isWrapper; first | (rw [if_pos (by decide +kernel)]; kernel_rfl) | (rw [if_neg (by decide +kernel)]; exact ⟨rfl, rfl⟩))
    (fun os started H enc _ => rulesRefuse_lifted os started H enc)

end Go.Proofs.YtchfpiimkmphjaaGreat

