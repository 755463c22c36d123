/- A part of the proof: N0. No condition. -/
import Derived.Test.YtchfpiimkmphjaaGreatRma
import Derived.Test.YtchfpiimkmphjaaGreatVmPc
import Derived.KernelRfl
namespace Go.VM
open Go
set_option maxRecDepth 1000000
noncomputable section
-- CheckSetup for a setup that is taken, and for one that is not
def setSy : List AV → Option (List Bool × AV)
  | [.agg [.int .i64 a, .bool f, .int .i64 b, .bool g, .int .i64 c, .bool h, .int .i64 n, .int .i64 it]] => some ([inI a, inI b, inI c, okSt a f b g c h n it], .int .i64 0)
  | _ => none
def setSn : List AV → Option (List Bool × AV)
  | [.agg [.int .i64 a, .bool f, .int .i64 b, .bool g, .int .i64 c, .bool h, .int .i64 n, .int .i64 it]] => some ([inI a, inI b, inI c, !okSt a f b g c h n it], .int .i64 3)
  | _ => none
theorem setSy_weak {k : Nat} (h : SumOk Go.Proofs.Tryz.prog k (pureS setS)) : SumOk Go.Proofs.Tryz.prog k (pureS setSy) := pureS_weak h (by
  intro a cs v h1 h2
  unfold setSy at h1
  split at h1
  · cases h1
    obtain ⟨c1, h2⟩ := allB_cons h2
    obtain ⟨c2, h2⟩ := allB_cons h2
    obtain ⟨c3, h2⟩ := allB_cons h2
    obtain ⟨c4, _⟩ := allB_cons h2
    refine ⟨_, by simp only [setS]; rw [c4, cond_true], ?_⟩
    simp [allB, c1, c2, c3]
  · cases h1)
theorem setSn_weak {k : Nat} (h : SumOk Go.Proofs.Tryz.prog k (pureS setS)) : SumOk Go.Proofs.Tryz.prog k (pureS setSn) := pureS_weak h (by
  intro a cs v h1 h2
  unfold setSn at h1
  split at h1
  · cases h1
    obtain ⟨c1, h2⟩ := allB_cons h2
    obtain ⟨c2, h2⟩ := allB_cons h2
    obtain ⟨c3, h2⟩ := allB_cons h2
    obtain ⟨c4, _⟩ := allB_cons h2
    rw [Bool.not_eq_true'] at c4
    refine ⟨_, by simp only [setS]; rw [c4, cond_false], ?_⟩
    simp [allB, c1, c2, c3]
  · cases h1)
theorem condAll_ok {R : Type} {cs : List Bool} {x : Option R} (h : allB cs = true) : condAll cs x = x := by rw [condAll_eq, h, cond_true]
def otY : OT := (ot5.set 40 31 (some (pureS setSy))).set 40 32 (some (pureS setSy))
def otN : OT := (ot5.set 40 31 (some (pureS setSn))).set 40 32 (some (pureS setSn))
theorem text31 : HasText Go.Proofs.Tryz.prog 31 := hasText ftok (f := 31) (fi := fiOf Go.Proofs.Tryz.f31) (by kernel_rfl)
theorem text32 : HasText Go.Proofs.Tryz.prog 32 := hasText ftok (f := 32) (fi := fiOf Go.Proofs.Tryz.f32) (by kernel_rfl)
theorem otY_ok : OTok Go.Proofs.Tryz.prog otY := otok_set (otok_set ot5_ok text31 (setSy_weak sum31)) text32 (setSy_weak sum32)
theorem otN_ok : OTok Go.Proofs.Tryz.prog otN := otok_set (otok_set ot5_ok text31 (setSn_weak sum31)) text32 (setSn_weak sum32)
end
end Go.VM

