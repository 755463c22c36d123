/- A part of the proof: Run9. No condition. -/
import Derived.Test.YtchfpiimkmphjaaGreatO08
import Derived.Test.YtchfpiimkmphjaaGreatVmL3
import Derived.KernelRfl
namespace Go.VM
open Go
set_option maxRecDepth 1000000
theorem tree9 (session : Int)  (c_Kind c_Id c_Body_Slot c_Body_Gen c_Version c_Shape_Kind c_Shape_R c_Shape_W c_Shape_H c_Pose_At_X_V c_Pose_At_Y_V c_Pose_Rot_C_V c_Pose_Rot_S_V c_V_X_V c_V_Y_V c_W_V c_Density c_At_X_V c_At_Y_V c_To_X_V c_To_Y_V c_Grab c_Box_X0 c_Box_Y0 c_Box_X1 c_Box_Y1 c_From_X c_From_Y c_Until_X c_Until_Y : Int) (c_Pose_At_X_F c_Pose_At_Y_F c_Pose_Rot_C_F c_Pose_Rot_S_F c_V_X_F c_V_Y_F c_W_F c_Moves c_At_X_F c_At_Y_F c_To_X_F c_To_Y_F : Bool) (c_Shape_Pts : List (List AV))  (h_Slot h_Gen : Int)  : funK ftc ttc ntc ot08 1000000 200 (.fn 9) [(AV.int .i64 session), (AV.agg [.int .i64 c_Kind, .int .i64 c_Id, .int .i64 c_Body_Slot, .int .i64 c_Body_Gen, .int .i64 c_Version, .int .i64 c_Shape_Kind, .int .i64 c_Shape_R, .int .i64 c_Shape_W, .int .i64 c_Shape_H, .list 2 c_Shape_Pts, .int .i64 c_Pose_At_X_V, .bool c_Pose_At_X_F, .int .i64 c_Pose_At_Y_V, .bool c_Pose_At_Y_F, .int .i64 c_Pose_Rot_C_V, .bool c_Pose_Rot_C_F, .int .i64 c_Pose_Rot_S_V, .bool c_Pose_Rot_S_F, .int .i64 c_V_X_V, .bool c_V_X_F, .int .i64 c_V_Y_V, .bool c_V_Y_F, .int .i64 c_W_V, .bool c_W_F, .int .i64 c_Density, .bool c_Moves, .int .i64 c_At_X_V, .bool c_At_X_F, .int .i64 c_At_Y_V, .bool c_At_Y_F, .int .i64 c_To_X_V, .bool c_To_X_F, .int .i64 c_To_Y_V, .bool c_To_Y_F, .int .i64 c_Grab, .int .i64 c_Box_X0, .int .i64 c_Box_Y0, .int .i64 c_Box_X1, .int .i64 c_Box_Y1, .int .i64 c_From_X, .int .i64 c_From_Y, .int .i64 c_Until_X, .int .i64 c_Until_Y]), (AV.agg [.int .i64 h_Slot, .int .i64 h_Gen])] H0 (fun v _ => some v) =
cond (decide ((↑c_Shape_Pts.length : Int) > 12))
 (some (AV.bool true))
 (some (AV.bool true))
 := by kernel_rfl

theorem run9 (session : Int)  (c_Kind c_Id c_Body_Slot c_Body_Gen c_Version c_Shape_Kind c_Shape_R c_Shape_W c_Shape_H c_Pose_At_X_V c_Pose_At_Y_V c_Pose_Rot_C_V c_Pose_Rot_S_V c_V_X_V c_V_Y_V c_W_V c_Density c_At_X_V c_At_Y_V c_To_X_V c_To_Y_V c_Grab c_Box_X0 c_Box_Y0 c_Box_X1 c_Box_Y1 c_From_X c_From_Y c_Until_X c_Until_Y : Int) (c_Pose_At_X_F c_Pose_At_Y_F c_Pose_Rot_C_F c_Pose_Rot_S_F c_V_X_F c_V_Y_F c_W_F c_Moves c_At_X_F c_At_Y_F c_To_X_F c_To_Y_F : Bool) (c_Shape_Pts : List (List AV))  (h_Slot h_Gen : Int)   : ∃ H', funA ftc ttc ntc ot08 1000000 200 (.fn 9) [(AV.int .i64 session), (AV.agg [.int .i64 c_Kind, .int .i64 c_Id, .int .i64 c_Body_Slot, .int .i64 c_Body_Gen, .int .i64 c_Version, .int .i64 c_Shape_Kind, .int .i64 c_Shape_R, .int .i64 c_Shape_W, .int .i64 c_Shape_H, .list 2 c_Shape_Pts, .int .i64 c_Pose_At_X_V, .bool c_Pose_At_X_F, .int .i64 c_Pose_At_Y_V, .bool c_Pose_At_Y_F, .int .i64 c_Pose_Rot_C_V, .bool c_Pose_Rot_C_F, .int .i64 c_Pose_Rot_S_V, .bool c_Pose_Rot_S_F, .int .i64 c_V_X_V, .bool c_V_X_F, .int .i64 c_V_Y_V, .bool c_V_Y_F, .int .i64 c_W_V, .bool c_W_F, .int .i64 c_Density, .bool c_Moves, .int .i64 c_At_X_V, .bool c_At_X_F, .int .i64 c_At_Y_V, .bool c_At_Y_F, .int .i64 c_To_X_V, .bool c_To_X_F, .int .i64 c_To_Y_V, .bool c_To_Y_F, .int .i64 c_Grab, .int .i64 c_Box_X0, .int .i64 c_Box_Y0, .int .i64 c_Box_X1, .int .i64 c_Box_Y1, .int .i64 c_From_X, .int .i64 c_From_Y, .int .i64 c_Until_X, .int .i64 c_Until_Y]), (AV.agg [.int .i64 h_Slot, .int .i64 h_Gen])] H0 = some (.bool true, H') := by
  apply run_of_K
  rw [tree9]
  simp [cond_same]
end Go.VM

