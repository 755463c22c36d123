/- RulesKnown: for every input the call returns true, and its arguments read afterwards as they did. No condition. -/
import Derived.Test.YtchfpiimkmphjaaGreatRun4
import Derived.Test.YtchfpiimkmphjaaGreatOK4
import Derived.Test.YtchfpiimkmphjaaGreatVmL3
import Derived.Test.YtchfpiimkmphjaaGreatVmJf
import Derived.Test.YtchfpiimkmphjaaGreatJp1
import Derived.Test.YtchfpiimkmphjaaGreatJp2
import Derived.Test.YtchfpiimkmphjaaGreatJp3
import Derived.Test.YtchfpiimkmphjaaGreatJl4a
import Derived.Test.YtchfpiimkmphjaaGreatRows
import Derived.ProofKit
namespace Go.Proofs.YtchfpiimkmphjaaGreat
open Go.ChangeShapes Go.WideShapes Go.ChangeAt Go.RowKit

theorem rulesKnown_own : ownKnob Tryz.prog.godebug = none := by kernel_rfl

set_option maxRecDepth 100000 in
theorem rulesKnown_lifted (os : Os) (started : os.Started) (H : Type) (enc : TypeId × Value → H) :
    ReturnsInHanded {} Tryz.checked os 4 .any (Rows.rulesKnownSpec.pre6 enc Tryz.prog Tryz.f4 Rows.rulesKnownRow.domain false) (Rows.rulesKnownSpec.post enc Tryz.prog Tryz.f4 false true false false) := by
  refine returnsInHanded_of_change (C := Tryz.checked) rulesKnown_own started (by kernel_rfl) Tryz.func4
    (ChangeSpec.witness6 (enc := enc) (C := Tryz.checked) false ⟨#[], #[], []⟩ 20 (by kernel_rfl) (by kernel_rfl) (by kernel_rfl) (by kernel_rfl)) ?_
  intro W base args ds gs before hval0 hW hcnd _
  have hval : ∀ (j : Nat) t v, Tryz.f4.params[j]? = some t → args[j]? = some v → Value.okWide Tryz.prog W .any base t v := hval0
  have hW2 := hW
  obtain ⟨p, q, hA0, hV, rfl, hfz, hnd⟩ := hW
  have hA : DataW.TrodAll enc Tryz.prog W 0 (fun _ => true) true Tryz.f4.params.toList args.toList ds p := hA0
  rw [Tryz.params4] at hA hval
  obtain ⟨rfl, rfl⟩ := trodVars_none hV
  obtain ⟨hx, rfl, rfl⟩ := trodAll_nil hA
  have hargs : args = #[] := by
    cases args with
    | mk l => cases l with
      | nil => rfl
      | cons _ _ => simp at hx
  subst hargs
  obtain ⟨H1, hrun⟩ := VM.run4
  have hc := VM.law_calls (F := fun _ => none) (W := W) (cargs := #[]) VM.mixed VM.ftok VM.ttok VM.ntok VM.otok4 hrun (fun _ _ h => by cases h) ⟨rfl, fun i v h => by simp at h⟩
  refine hc.mono fun e W' ⟨cv, σ', F', he, hv, hb⟩ => ?_
  subst he
  obtain rfl := hv.bool_inv
  refine ⟨_, rfl, VM.post_of_only (pa := []) (pv := []) hW2 (fun _ _ _ => ?_) (fun sp _ => ?_) (fun _ _ => rfl) (fun may => hb.frame may)⟩
  · exact trodAll_mk1 (shut_bool Tryz.underlying4 true)
  · exact rfl

theorem rulesKnown_holds : Rows.RulesKnownSaid :=
  OpenClaim.holds_of_wide 4 Tryz.f4 rfl rfl rfl rfl rfl rfl rfl ⟨rfl, rfl, rfl, rfl, rfl⟩ rfl rfl rfl rfl rfl (by kernel_rfl) Tryz.func4
    (VM.jf (P := Tryz.checked.prog) (f := 4) (fn := Tryz.f4) (s := Rows.rulesKnownSpec) (c := Rows.rulesKnownRow) (by kernel_rfl) jlaid jrows (by kernel_rfl) (by kernel_rfl) (by kernel_rfl) (by kernel_rfl) (by kernel_rfl) (by kernel_rfl) rulesKnown_jin rulesKnown_junf rulesKnown_jrec rulesKnown_jnam (by kernel_rfl) (by kernel_rfl) (by kernel_rfl) (by kernel_rfl) (by kernel_rfl) (by kernel_rfl) (by kernel_rfl) (by kernel_rfl) (by kernel_rfl) jkeys (by kernel_rfl) jheard jmay jlift (by kernel_rfl) (by kernel_rfl) (by kernel_rfl) (by kernel_rfl) (by kernel_rfl))
    (of_decide_eq_true (by kernel_rfl)) (by unfold Func.isWrapper; first | (rw [if_pos (by decide +kernel)]; kernel_rfl) | (rw [if_neg (by decide +kernel)]; exact ⟨rfl, rfl⟩))
    (fun os started H enc _ => rulesKnown_lifted os started H enc)

end Go.Proofs.YtchfpiimkmphjaaGreat

