/- A part of the proof: LayS. No condition. -/
import Derived.Shelf.SlGeneric
import Derived.Shelf.SlIterI.Nil
import Derived.Shelf.SlIterI.Sorted
import Derived.Shelf.SortM.Plain
import Derived.Shelf.SortM.SortNone
import Derived.Ground.GgzProg
import Derived.Ground.SlgmProg
import Derived.Test.YtchfpiimkmphjaaGreatProg
namespace Go.Proofs
open Go.Shelf
def Tryz.keysA_ren : Go.Shelf.Ren := ⟨fun | 7 => 283 | 10 => 368 | n => n, fun | 23 => 277 | 26 => 3 | 3 => 36 | 28 => 377 | 0 => 0 | 27 => 376 | 33 => 54 | 4 => 4 | n => n, fun | n => n⟩
theorem Tryz.keysA : Go.Proofs.SlLaysZI.n7 Tryz.prog Tryz.keysA_ren := {
  mixed := by kernel_rfl
  f7 := ⟨Tryz.f283.name, by decide, Tryz.func283.trans (congrArg some (by kernel_rfl))⟩
  f10 := ⟨Tryz.f368.name, by decide, Tryz.func368.trans (congrArg some (by kernel_rfl))⟩
  t0 := Tryz.underlying0
  a0 := Tryz.isAgg0
  z0 := Tryz.sizeOf0
  v0 := Tryz.zeroValue0
  t4 := Tryz.underlying4
  a4 := Tryz.isAgg4
  z4 := Tryz.sizeOf4
  v4 := Tryz.zeroValue4
  t23 := Tryz.underlying277
  a23 := Tryz.isAgg277
  z23 := Tryz.sizeOf277
  v23 := Tryz.zeroValue277
  t26 := Tryz.underlying3
  a26 := Tryz.isAgg3
  z26 := Tryz.sizeOf3
  v26 := Tryz.zeroValue3
  t27 := Tryz.underlying376
  a27 := Tryz.isAgg376
  z27 := Tryz.sizeOf376
  v27 := Tryz.zeroValue376
  t28 := Tryz.underlying377
  a28 := Tryz.isAgg377
  z28 := Tryz.sizeOf377
  v28 := Tryz.zeroValue377
  t33 := Tryz.underlying54
  a33 := Tryz.isAgg54
  z33 := Tryz.sizeOf54
  v33 := Tryz.zeroValue54 }
def Tryz.sortedA_ren : Go.Shelf.Ren := ⟨fun | 6 => 282 | 8 => 366 | 9 => 367 | 11 => 444 | 13 => 285 | 12 => 445 | 23 => 377 | 24 => 329 | 14 => 467 | 15 => 468 | 16 => 469 | 17 => 470 | 18 => 471 | 19 => 472 | 20 => 473 | 21 => 474 | 22 => 475 | 25 => 481 | 26 => 447 | 27 => 448 | 28 => 482 | 29 => 483 | 30 => 286 | 31 => 484 | n => n, fun | 26 => 3 | 28 => 377 | 24 => 67 | 0 => 0 | 3 => 3 | 37 => 229 | 48 => 457 | 50 => 241 | 4 => 4 | 40 => 451 | 39 => 450 | 45 => 123 | 5 => 5 | 9 => 9 | 51 => 507 | 55 => 511 | 57 => 530 | 58 => 531 | 33 => 54 | n => n, fun | n => n⟩
theorem Tryz.sortedA : Go.Proofs.SlLaysZI.n6 Tryz.prog Tryz.sortedA_ren := {
  mixed := by kernel_rfl
  f6 := ⟨Tryz.f282.name, by decide, Tryz.func282.trans (congrArg some (by kernel_rfl))⟩
  f8 := ⟨Tryz.f366.name, by decide, Tryz.func366.trans (congrArg some (by kernel_rfl))⟩
  f11 := ⟨Tryz.f444.name, by decide, Tryz.func444.trans (congrArg some (by kernel_rfl))⟩
  t0 := Tryz.underlying0
  a0 := Tryz.isAgg0
  z0 := Tryz.sizeOf0
  v0 := Tryz.zeroValue0
  t24 := Tryz.underlying67
  a24 := Tryz.isAgg67
  z24 := Tryz.sizeOf67
  v24 := Tryz.zeroValue67
  t26 := Tryz.underlying3
  a26 := Tryz.isAgg3
  z26 := Tryz.sizeOf3
  v26 := Tryz.zeroValue3
  t28 := Tryz.underlying377
  a28 := Tryz.isAgg377
  z28 := Tryz.sizeOf377
  v28 := Tryz.zeroValue377
  i26 := by kernel_rfl }
def Tryz.sortA_ren : Go.Shelf.Ren := ⟨fun | 5 => 367 | 8 => 285 | 7 => 445 | 19 => 377 | 20 => 329 | 10 => 467 | 11 => 468 | 12 => 469 | 13 => 470 | 14 => 471 | 15 => 472 | 16 => 473 | 17 => 474 | 18 => 475 | 30 => 481 | 31 => 447 | 32 => 448 | 33 => 482 | 34 => 483 | 35 => 286 | 40 => 484 | n => n, fun | 23 => 67 | 25 => 3 | 3 => 3 | 32 => 229 | 22 => 67 | 0 => 0 | 44 => 457 | 46 => 241 | 4 => 4 | 36 => 451 | 35 => 450 | 41 => 123 | 5 => 5 | 9 => 9 | 53 => 507 | 57 => 511 | 63 => 530 | 64 => 531 | n => n, fun | n => n⟩
theorem Tryz.sortA : Go.Proofs.SlLaysM.n5 Tryz.prog Tryz.sortA_ren := {
  mixed := by kernel_rfl
  f5 := ⟨Tryz.f367.name, by decide, Tryz.func367.trans (congrArg some (by kernel_rfl))⟩
  f7 := ⟨Tryz.f445.name, by decide, Tryz.func445.trans (congrArg some (by kernel_rfl))⟩
  f8 := Tryz.func285.trans (congrArg some (by kernel_rfl))
  f10 := ⟨Tryz.f467.name, by decide, Tryz.func467.trans (congrArg some (by kernel_rfl))⟩
  f11 := ⟨Tryz.f468.name, by decide, Tryz.func468.trans (congrArg some (by kernel_rfl))⟩
  f12 := ⟨Tryz.f469.name, by decide, Tryz.func469.trans (congrArg some (by kernel_rfl))⟩
  f13 := ⟨Tryz.f470.name, by decide, Tryz.func470.trans (congrArg some (by kernel_rfl))⟩
  f14 := ⟨Tryz.f471.name, by decide, Tryz.func471.trans (congrArg some (by kernel_rfl))⟩
  f15 := ⟨Tryz.f472.name, by decide, Tryz.func472.trans (congrArg some (by kernel_rfl))⟩
  f16 := ⟨Tryz.f473.name, by decide, Tryz.func473.trans (congrArg some (by kernel_rfl))⟩
  f17 := ⟨Tryz.f474.name, by decide, Tryz.func474.trans (congrArg some (by kernel_rfl))⟩
  f18 := ⟨Tryz.f475.name, by decide, Tryz.func475.trans (congrArg some (by kernel_rfl))⟩
  f19 := Tryz.func377.trans (congrArg some (by kernel_rfl))
  f20 := Tryz.func329.trans (congrArg some (by kernel_rfl))
  f30 := ⟨Tryz.f481.name, by decide, Tryz.func481.trans (congrArg some (by kernel_rfl))⟩
  f31 := Tryz.func447.trans (congrArg some (by kernel_rfl))
  f32 := Tryz.func448.trans (congrArg some (by kernel_rfl))
  f33 := ⟨Tryz.f482.name, by decide, Tryz.func482.trans (congrArg some (by kernel_rfl))⟩
  f34 := ⟨Tryz.f483.name, by decide, Tryz.func483.trans (congrArg some (by kernel_rfl))⟩
  f35 := ⟨Tryz.f286.name, by decide, Tryz.func286.trans (congrArg some (by kernel_rfl))⟩
  f40 := ⟨Tryz.f484.name, by decide, Tryz.func484.trans (congrArg some (by kernel_rfl))⟩
  t0 := Tryz.underlying0
  a0 := Tryz.isAgg0
  z0 := Tryz.sizeOf0
  v0 := Tryz.zeroValue0
  t3 := Tryz.underlying3
  a3 := Tryz.isAgg3
  z3 := Tryz.sizeOf3
  v3 := Tryz.zeroValue3
  t4 := Tryz.underlying4
  a4 := Tryz.isAgg4
  z4 := Tryz.sizeOf4
  v4 := Tryz.zeroValue4
  t5 := Tryz.underlying5
  a5 := Tryz.isAgg5
  z5 := Tryz.sizeOf5
  v5 := Tryz.zeroValue5
  t9 := Tryz.underlying9
  a9 := Tryz.isAgg9
  z9 := Tryz.sizeOf9
  v9 := Tryz.zeroValue9
  t22 := Tryz.underlying67
  a22 := Tryz.isAgg67
  z22 := Tryz.sizeOf67
  v22 := Tryz.zeroValue67
  t23 := Tryz.underlying67
  a23 := Tryz.isAgg67
  z23 := Tryz.sizeOf67
  v23 := Tryz.zeroValue67
  t25 := Tryz.underlying3
  a25 := Tryz.isAgg3
  z25 := Tryz.sizeOf3
  v25 := Tryz.zeroValue3
  t32 := Tryz.underlying229
  a32 := Tryz.isAgg229
  z32 := Tryz.sizeOf229
  v32 := Tryz.zeroValue229
  t35 := Tryz.underlying450
  a35 := Tryz.isAgg450
  z35 := Tryz.sizeOf450
  v35 := Tryz.zeroValue450
  t36 := Tryz.underlying451
  a36 := Tryz.isAgg451
  z36 := Tryz.sizeOf451
  v36 := Tryz.zeroValue451
  t41 := Tryz.underlying123
  a41 := Tryz.isAgg123
  z41 := Tryz.sizeOf123
  v41 := Tryz.zeroValue123
  t44 := Tryz.underlying457
  a44 := Tryz.isAgg457
  z44 := Tryz.sizeOf457
  v44 := Tryz.zeroValue457
  t46 := Tryz.underlying241
  a46 := Tryz.isAgg241
  z46 := Tryz.sizeOf241
  v46 := Tryz.zeroValue241
  t53 := Tryz.underlying507
  a53 := Tryz.isAgg507
  z53 := Tryz.sizeOf507
  v53 := Tryz.zeroValue507
  t57 := Tryz.underlying511
  a57 := Tryz.isAgg511
  z57 := Tryz.sizeOf511
  v57 := Tryz.zeroValue511
  t63 := Tryz.underlying530
  a63 := Tryz.isAgg530
  z63 := Tryz.sizeOf530
  v63 := Tryz.zeroValue530
  t64 := Tryz.underlying531
  a64 := Tryz.isAgg531
  z64 := Tryz.sizeOf531
  v64 := Tryz.zeroValue531 }
end Go.Proofs

