/- A part of the proof: Run3. No condition. -/
import Derived.Test.YtchfpiimkmphjaaGreatO08
import Derived.Test.YtchfpiimkmphjaaGreatVmL3
import Derived.KernelRfl
namespace Go.VM
open Go
set_option maxRecDepth 1000000
theorem tree3 (c_Kind c_Id c_Body_Slot c_Body_Gen c_Version c_Shape_Kind c_Shape_R c_Shape_W c_Shape_H c_Pose_At_X_V c_Pose_At_Y_V c_Pose_Rot_C_V c_Pose_Rot_S_V c_V_X_V c_V_Y_V c_W_V c_Density c_At_X_V c_At_Y_V c_To_X_V c_To_Y_V c_Grab c_Box_X0 c_Box_Y0 c_Box_X1 c_Box_Y1 c_From_X c_From_Y c_Until_X c_Until_Y : Int) (c_Pose_At_X_F c_Pose_At_Y_F c_Pose_Rot_C_F c_Pose_Rot_S_F c_V_X_F c_V_Y_F c_W_F c_Moves c_At_X_F c_At_Y_F c_To_X_F c_To_Y_F : Bool) (c_Shape_Pts : List (List AV))  (e : Int)  (kind : Int)  : funK ftc ttc ntc ot08 1000000 200 (.fn 3) [(AV.agg [.int .i64 c_Kind, .int .i64 c_Id, .int .i64 c_Body_Slot, .int .i64 c_Body_Gen, .int .i64 c_Version, .int .i64 c_Shape_Kind, .int .i64 c_Shape_R, .int .i64 c_Shape_W, .int .i64 c_Shape_H, .list 2 c_Shape_Pts, .int .i64 c_Pose_At_X_V, .bool c_Pose_At_X_F, .int .i64 c_Pose_At_Y_V, .bool c_Pose_At_Y_F, .int .i64 c_Pose_Rot_C_V, .bool c_Pose_Rot_C_F, .int .i64 c_Pose_Rot_S_V, .bool c_Pose_Rot_S_F, .int .i64 c_V_X_V, .bool c_V_X_F, .int .i64 c_V_Y_V, .bool c_V_Y_F, .int .i64 c_W_V, .bool c_W_F, .int .i64 c_Density, .bool c_Moves, .int .i64 c_At_X_V, .bool c_At_X_F, .int .i64 c_At_Y_V, .bool c_At_Y_F, .int .i64 c_To_X_V, .bool c_To_X_F, .int .i64 c_To_Y_V, .bool c_To_Y_F, .int .i64 c_Grab, .int .i64 c_Box_X0, .int .i64 c_Box_Y0, .int .i64 c_Box_X1, .int .i64 c_Box_Y1, .int .i64 c_From_X, .int .i64 c_From_Y, .int .i64 c_Until_X, .int .i64 c_Until_Y]), (AV.int .i64 e), (AV.int .i64 kind)] H0 (fun v _ => some v) =
cond (decide ((↑c_Shape_Pts.length : Int) > 12))
 (some (AV.bool true))
 (  cond (c_Kind == c_Kind)
   (    cond (c_Id == c_Id)
     (      cond (e == e)
       (        cond (decide (kind ≥ 1))
         (          cond (decide (kind ≥ 1))
           (            cond (decide (kind ≤ 6) == decide (kind ≤ 6))
             (some (AV.bool true))
             (some (AV.bool false)))
           (            cond (decide (kind ≤ 6) == false)
             (some (AV.bool true))
             (some (AV.bool false))))
         (          cond (decide (kind ≥ 1))
           (            cond (false == decide (kind ≤ 6))
             (some (AV.bool true))
             (some (AV.bool false)))
           (some (AV.bool true))))
       (some (AV.bool false)))
     (some (AV.bool false)))
   (some (AV.bool false)))
 := by kernel_rfl

theorem run3 (c_Kind c_Id c_Body_Slot c_Body_Gen c_Version c_Shape_Kind c_Shape_R c_Shape_W c_Shape_H c_Pose_At_X_V c_Pose_At_Y_V c_Pose_Rot_C_V c_Pose_Rot_S_V c_V_X_V c_V_Y_V c_W_V c_Density c_At_X_V c_At_Y_V c_To_X_V c_To_Y_V c_Grab c_Box_X0 c_Box_Y0 c_Box_X1 c_Box_Y1 c_From_X c_From_Y c_Until_X c_Until_Y : Int) (c_Pose_At_X_F c_Pose_At_Y_F c_Pose_Rot_C_F c_Pose_Rot_S_F c_V_X_F c_V_Y_F c_W_F c_Moves c_At_X_F c_At_Y_F c_To_X_F c_To_Y_F : Bool) (c_Shape_Pts : List (List AV))  (e : Int)  (kind : Int)  (c_Kind_lo : IntKind.i64.min ≤ c_Kind) (c_Kind_hi : c_Kind ≤ IntKind.i64.max) (c_Id_lo : IntKind.i64.min ≤ c_Id) (c_Id_hi : c_Id ≤ IntKind.i64.max) (c_Body_Slot_lo : IntKind.i64.min ≤ c_Body_Slot) (c_Body_Slot_hi : c_Body_Slot ≤ IntKind.i64.max) (c_Body_Gen_lo : IntKind.i64.min ≤ c_Body_Gen) (c_Body_Gen_hi : c_Body_Gen ≤ IntKind.i64.max) (c_Version_lo : IntKind.i64.min ≤ c_Version) (c_Version_hi : c_Version ≤ IntKind.i64.max) (c_Shape_Kind_lo : IntKind.i64.min ≤ c_Shape_Kind) (c_Shape_Kind_hi : c_Shape_Kind ≤ IntKind.i64.max) (c_Shape_R_lo : IntKind.i64.min ≤ c_Shape_R) (c_Shape_R_hi : c_Shape_R ≤ IntKind.i64.max) (c_Shape_W_lo : IntKind.i64.min ≤ c_Shape_W) (c_Shape_W_hi : c_Shape_W ≤ IntKind.i64.max) (c_Shape_H_lo : IntKind.i64.min ≤ c_Shape_H) (c_Shape_H_hi : c_Shape_H ≤ IntKind.i64.max) (c_Shape_Pts_es : LEs [.int .i64, .int .i64] c_Shape_Pts) (c_Shape_Pts_len : c_Shape_Pts.length ≤ maxLen) (c_Pose_At_X_V_lo : IntKind.i64.min ≤ c_Pose_At_X_V) (c_Pose_At_X_V_hi : c_Pose_At_X_V ≤ IntKind.i64.max) (c_Pose_At_Y_V_lo : IntKind.i64.min ≤ c_Pose_At_Y_V) (c_Pose_At_Y_V_hi : c_Pose_At_Y_V ≤ IntKind.i64.max) (c_Pose_Rot_C_V_lo : IntKind.i64.min ≤ c_Pose_Rot_C_V) (c_Pose_Rot_C_V_hi : c_Pose_Rot_C_V ≤ IntKind.i64.max) (c_Pose_Rot_S_V_lo : IntKind.i64.min ≤ c_Pose_Rot_S_V) (c_Pose_Rot_S_V_hi : c_Pose_Rot_S_V ≤ IntKind.i64.max) (c_V_X_V_lo : IntKind.i64.min ≤ c_V_X_V) (c_V_X_V_hi : c_V_X_V ≤ IntKind.i64.max) (c_V_Y_V_lo : IntKind.i64.min ≤ c_V_Y_V) (c_V_Y_V_hi : c_V_Y_V ≤ IntKind.i64.max) (c_W_V_lo : IntKind.i64.min ≤ c_W_V) (c_W_V_hi : c_W_V ≤ IntKind.i64.max) (c_Density_lo : IntKind.i64.min ≤ c_Density) (c_Density_hi : c_Density ≤ IntKind.i64.max) (c_At_X_V_lo : IntKind.i64.min ≤ c_At_X_V) (c_At_X_V_hi : c_At_X_V ≤ IntKind.i64.max) (c_At_Y_V_lo : IntKind.i64.min ≤ c_At_Y_V) (c_At_Y_V_hi : c_At_Y_V ≤ IntKind.i64.max) (c_To_X_V_lo : IntKind.i64.min ≤ c_To_X_V) (c_To_X_V_hi : c_To_X_V ≤ IntKind.i64.max) (c_To_Y_V_lo : IntKind.i64.min ≤ c_To_Y_V) (c_To_Y_V_hi : c_To_Y_V ≤ IntKind.i64.max) (c_Grab_lo : IntKind.i64.min ≤ c_Grab) (c_Grab_hi : c_Grab ≤ IntKind.i64.max) (c_Box_X0_lo : IntKind.i64.min ≤ c_Box_X0) (c_Box_X0_hi : c_Box_X0 ≤ IntKind.i64.max) (c_Box_Y0_lo : IntKind.i64.min ≤ c_Box_Y0) (c_Box_Y0_hi : c_Box_Y0 ≤ IntKind.i64.max) (c_Box_X1_lo : IntKind.i64.min ≤ c_Box_X1) (c_Box_X1_hi : c_Box_X1 ≤ IntKind.i64.max) (c_Box_Y1_lo : IntKind.i64.min ≤ c_Box_Y1) (c_Box_Y1_hi : c_Box_Y1 ≤ IntKind.i64.max) (c_From_X_lo : IntKind.i64.min ≤ c_From_X) (c_From_X_hi : c_From_X ≤ IntKind.i64.max) (c_From_Y_lo : IntKind.i64.min ≤ c_From_Y) (c_From_Y_hi : c_From_Y ≤ IntKind.i64.max) (c_Until_X_lo : IntKind.i64.min ≤ c_Until_X) (c_Until_X_hi : c_Until_X ≤ IntKind.i64.max) (c_Until_Y_lo : IntKind.i64.min ≤ c_Until_Y) (c_Until_Y_hi : c_Until_Y ≤ IntKind.i64.max) (e_lo : IntKind.i64.min ≤ e) (e_hi : e ≤ IntKind.i64.max) (kind_lo : IntKind.i64.min ≤ kind) (kind_hi : kind ≤ IntKind.i64.max) : ∃ H', funA ftc ttc ntc ot08 1000000 200 (.fn 3) [(AV.agg [.int .i64 c_Kind, .int .i64 c_Id, .int .i64 c_Body_Slot, .int .i64 c_Body_Gen, .int .i64 c_Version, .int .i64 c_Shape_Kind, .int .i64 c_Shape_R, .int .i64 c_Shape_W, .int .i64 c_Shape_H, .list 2 c_Shape_Pts, .int .i64 c_Pose_At_X_V, .bool c_Pose_At_X_F, .int .i64 c_Pose_At_Y_V, .bool c_Pose_At_Y_F, .int .i64 c_Pose_Rot_C_V, .bool c_Pose_Rot_C_F, .int .i64 c_Pose_Rot_S_V, .bool c_Pose_Rot_S_F, .int .i64 c_V_X_V, .bool c_V_X_F, .int .i64 c_V_Y_V, .bool c_V_Y_F, .int .i64 c_W_V, .bool c_W_F, .int .i64 c_Density, .bool c_Moves, .int .i64 c_At_X_V, .bool c_At_X_F, .int .i64 c_At_Y_V, .bool c_At_Y_F, .int .i64 c_To_X_V, .bool c_To_X_F, .int .i64 c_To_Y_V, .bool c_To_Y_F, .int .i64 c_Grab, .int .i64 c_Box_X0, .int .i64 c_Box_Y0, .int .i64 c_Box_X1, .int .i64 c_Box_Y1, .int .i64 c_From_X, .int .i64 c_From_Y, .int .i64 c_Until_X, .int .i64 c_Until_Y]), (AV.int .i64 e), (AV.int .i64 kind)] H0 = some (.bool true, H') := by
  apply run_of_K
  rw [tree3]
  by_cases h1 : kind ≥ 1 <;> by_cases h2 : kind ≤ 6 <;> simp [h1, h2, cond_same]
end Go.VM

