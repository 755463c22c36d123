/- A part of the proof: P33c. No condition. -/
import Derived.Test.YtchfpiimkmphjaaGreatP33
namespace Go.VM
open Go
set_option maxRecDepth 1000000
noncomputable section
theorem q33_2 (a b c it : Int) (f g h : Bool) (N2 : Nat) (xx : Bool) (bo : AV) (o4 o5 o6 : AO) : k33 a b c (.ofNat 2) it f g h 2 N2 xx bo (rep 2 row0) o4 o5 o6 = some (.str (strB (wBytes a b c (.ofNat 2) it 2))) := by kernel_rfl
theorem q33_6 (a b c it : Int) (f g h : Bool) (N2 : Nat) (xx : Bool) (bo : AV) (o4 o5 o6 : AO) : k33 a b c (.ofNat 6) it f g h 6 N2 xx bo (rep 6 row0) o4 o5 o6 = some (.str (strB (wBytes a b c (.ofNat 6) it 6))) := by kernel_rfl
theorem q33_10 (a b c it : Int) (f g h : Bool) (N2 : Nat) (xx : Bool) (bo : AV) (o4 o5 o6 : AO) : k33 a b c (.ofNat 10) it f g h 10 N2 xx bo (rep 10 row0) o4 o5 o6 = some (.str (strB (wBytes a b c (.ofNat 10) it 10))) := by kernel_rfl
theorem q33_14 (a b c it : Int) (f g h : Bool) (N2 : Nat) (xx : Bool) (bo : AV) (o4 o5 o6 : AO) : k33 a b c (.ofNat 14) it f g h 14 N2 xx bo (rep 14 row0) o4 o5 o6 = some (.str (strB (wBytes a b c (.ofNat 14) it 14))) := by kernel_rfl
theorem q33_18 (a b c it : Int) (f g h : Bool) (N2 : Nat) (xx : Bool) (bo : AV) (o4 o5 o6 : AO) : k33 a b c (.ofNat 18) it f g h 18 N2 xx bo (rep 18 row0) o4 o5 o6 = some (.str (strB (wBytes a b c (.ofNat 18) it 18))) := by kernel_rfl
theorem q33_22 (a b c it : Int) (f g h : Bool) (N2 : Nat) (xx : Bool) (bo : AV) (o4 o5 o6 : AO) : k33 a b c (.ofNat 22) it f g h 22 N2 xx bo (rep 22 row0) o4 o5 o6 = some (.str (strB (wBytes a b c (.ofNat 22) it 22))) := by kernel_rfl
theorem q33_26 (a b c it : Int) (f g h : Bool) (N2 : Nat) (xx : Bool) (bo : AV) (o4 o5 o6 : AO) : k33 a b c (.ofNat 26) it f g h 26 N2 xx bo (rep 26 row0) o4 o5 o6 = some (.str (strB (wBytes a b c (.ofNat 26) it 26))) := by kernel_rfl
theorem q33_30 (a b c it : Int) (f g h : Bool) (N2 : Nat) (xx : Bool) (bo : AV) (o4 o5 o6 : AO) : k33 a b c (.ofNat 30) it f g h 30 N2 xx bo (rep 30 row0) o4 o5 o6 = some (.str (strB (wBytes a b c (.ofNat 30) it 30))) := by kernel_rfl
theorem q33_34 (a b c it : Int) (f g h : Bool) (N2 : Nat) (xx : Bool) (bo : AV) (o4 o5 o6 : AO) : k33 a b c (.ofNat 34) it f g h 34 N2 xx bo (rep 34 row0) o4 o5 o6 = some (.str (strB (wBytes a b c (.ofNat 34) it 34))) := by kernel_rfl
theorem q33_38 (a b c it : Int) (f g h : Bool) (N2 : Nat) (xx : Bool) (bo : AV) (o4 o5 o6 : AO) : k33 a b c (.ofNat 38) it f g h 38 N2 xx bo (rep 38 row0) o4 o5 o6 = some (.str (strB (wBytes a b c (.ofNat 38) it 38))) := by kernel_rfl
theorem q33_42 (a b c it : Int) (f g h : Bool) (N2 : Nat) (xx : Bool) (bo : AV) (o4 o5 o6 : AO) : k33 a b c (.ofNat 42) it f g h 42 N2 xx bo (rep 42 row0) o4 o5 o6 = some (.str (strB (wBytes a b c (.ofNat 42) it 42))) := by kernel_rfl
theorem q33_46 (a b c it : Int) (f g h : Bool) (N2 : Nat) (xx : Bool) (bo : AV) (o4 o5 o6 : AO) : k33 a b c (.ofNat 46) it f g h 46 N2 xx bo (rep 46 row0) o4 o5 o6 = some (.str (strB (wBytes a b c (.ofNat 46) it 46))) := by kernel_rfl
theorem q33_50 (a b c it : Int) (f g h : Bool) (N2 : Nat) (xx : Bool) (bo : AV) (o4 o5 o6 : AO) : k33 a b c (.ofNat 50) it f g h 50 N2 xx bo (rep 50 row0) o4 o5 o6 = some (.str (strB (wBytes a b c (.ofNat 50) it 50))) := by kernel_rfl
theorem q33_54 (a b c it : Int) (f g h : Bool) (N2 : Nat) (xx : Bool) (bo : AV) (o4 o5 o6 : AO) : k33 a b c (.ofNat 54) it f g h 54 N2 xx bo (rep 54 row0) o4 o5 o6 = some (.str (strB (wBytes a b c (.ofNat 54) it 54))) := by kernel_rfl
theorem q33_58 (a b c it : Int) (f g h : Bool) (N2 : Nat) (xx : Bool) (bo : AV) (o4 o5 o6 : AO) : k33 a b c (.ofNat 58) it f g h 58 N2 xx bo (rep 58 row0) o4 o5 o6 = some (.str (strB (wBytes a b c (.ofNat 58) it 58))) := by kernel_rfl
theorem q33_62 (a b c it : Int) (f g h : Bool) (N2 : Nat) (xx : Bool) (bo : AV) (o4 o5 o6 : AO) : k33 a b c (.ofNat 62) it f g h 62 N2 xx bo (rep 62 row0) o4 o5 o6 = some (.str (strB (wBytes a b c (.ofNat 62) it 62))) := by kernel_rfl
end
end Go.VM

