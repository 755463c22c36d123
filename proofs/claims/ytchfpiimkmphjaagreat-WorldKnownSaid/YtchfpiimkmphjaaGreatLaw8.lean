/- WorldKnown: for every input the call returns true, and its arguments read afterwards as they did. No condition. -/
import Derived.Test.YtchfpiimkmphjaaGreatRun8
import Derived.Test.YtchfpiimkmphjaaGreatVmL3
import Derived.Test.YtchfpiimkmphjaaGreatVmJf
import Derived.Test.YtchfpiimkmphjaaGreatJp1
import Derived.Test.YtchfpiimkmphjaaGreatJp2
import Derived.Test.YtchfpiimkmphjaaGreatJp3
import Derived.Test.YtchfpiimkmphjaaGreatJl8a
import Derived.Test.YtchfpiimkmphjaaGreatRows
import Derived.ProofKit
namespace Go.Proofs.YtchfpiimkmphjaaGreat
open Go.ChangeShapes Go.WideShapes Go.ChangeAt Go.RowKit

theorem worldKnown_own : ownKnob Tryz.prog.godebug = none := by kernel_rfl

set_option maxRecDepth 100000 in
theorem worldKnown_lifted (os : Os) (started : os.Started) (H : Type) (enc : TypeId × Value → H) :
    ReturnsInHanded {} Tryz.checked os 8 .any (Rows.worldKnownSpec.pre6 enc Tryz.prog Tryz.f8 Rows.worldKnownRow.domain false) (Rows.worldKnownSpec.post enc Tryz.prog Tryz.f8 false true false false) := by
  refine returnsInHanded_of_change (C := Tryz.checked) worldKnown_own started (by kernel_rfl) Tryz.func8
    (ChangeSpec.witness6 (enc := enc) (C := Tryz.checked) false ⟨#[], #[], []⟩ 20 (by kernel_rfl) (by kernel_rfl) (by kernel_rfl) (by kernel_rfl)) ?_
  intro W base args ds gs before hval0 hW hcnd _
  have hval : ∀ (j : Nat) t v, Tryz.f8.params[j]? = some t → args[j]? = some v → Value.okWide Tryz.prog W .any base t v := hval0
  have hW2 := hW
  obtain ⟨p, q, hA0, hV, rfl, hfz, hnd⟩ := hW
  have hA : DataW.TrodAll enc Tryz.prog W 0 (fun _ => true) true Tryz.f8.params.toList args.toList ds p := hA0
  rw [Tryz.params8] at hA hval
  obtain ⟨rfl, rfl⟩ := trodVars_none hV
  obtain ⟨hx, rfl, rfl⟩ := trodAll_nil hA
  have hargs : args = #[] := by
    cases args with
    | mk l => cases l with
      | nil => rfl
      | cons _ _ => simp at hx
  subst hargs
  obtain ⟨H1, hrun⟩ := VM.run8
  have hc := VM.law_calls (F := fun _ => none) (W := W) (cargs := #[]) VM.mixed VM.ftok VM.ttok VM.ntok VM.ot13_ok hrun (fun _ _ h => by cases h) ⟨rfl, fun i v h => by simp at h⟩
  refine hc.mono fun e W' ⟨cv, σ', F', he, hv, hb⟩ => ?_
  subst he
  obtain rfl := hv.bool_inv
  refine ⟨_, rfl, VM.post_of_only (pa := []) (pv := []) hW2 (fun _ _ _ => ?_) (fun sp _ => ?_) (fun _ _ => rfl) (fun may => hb.frame may)⟩
  · exact trodAll_mk1 (shut_bool Tryz.underlying4 true)
  · exact rfl

theorem worldKnown_holds : Rows.WorldKnownSaid :=
  OpenClaim.holds_of_wide 8 Tryz.f8 rfl rfl rfl rfl rfl rfl rfl ⟨rfl, rfl, rfl, rfl, rfl⟩ rfl rfl rfl rfl rfl (by kernel_rfl) Tryz.func8
    (VM.jf (P := Tryz.checked.prog) (f := 8) (fn := Tryz.f8) (s := Rows.worldKnownSpec) (c := Rows.worldKnownRow) (by kernel_rfl) jlaid jrows (by kernel_rfl) (by kernel_rfl) (by kernel_rfl) (by kernel_rfl) (by kernel_rfl) (by kernel_rfl) worldKnown_jin worldKnown_junf worldKnown_jrec worldKnown_jnam (by kernel_rfl) (by kernel_rfl) (by kernel_rfl) (by kernel_rfl) (by kernel_rfl) (by kernel_rfl) (by kernel_rfl) (by kernel_rfl) (by kernel_rfl) jkeys (by kernel_rfl) jheard jmay jlift (by kernel_rfl) (by kernel_rfl) (by kernel_rfl) (by kernel_rfl) (by kernel_rfl))
    (of_decide_eq_true (by kernel_rfl)) (by unfold Func.isWrapper; first | (rw [if_pos (by decide +kernel)]; kernel_rfl) | (rw [if_neg (by decide +kernel)]; exact ⟨rfl, rfl⟩))
    (fun os started H enc _ => worldKnown_lifted os started H enc)

end Go.Proofs.YtchfpiimkmphjaaGreat

