/- A part of the proof: P33b. No condition. -/
import Derived.Test.YtchfpiimkmphjaaGreatP33
namespace Go.VM
open Go
set_option maxRecDepth 1000000
noncomputable section
theorem q33_1 (a b c it : Int) (f g h : Bool) (N2 : Nat) (xx : Bool) (bo : AV) (o4 o5 o6 : AO) : k33 a b c (.ofNat 1) it f g h 1 N2 xx bo (rep 1 row0) o4 o5 o6 = some (.str (strB (wBytes a b c (.ofNat 1) it 1))) := by kernel_rfl
theorem q33_5 (a b c it : Int) (f g h : Bool) (N2 : Nat) (xx : Bool) (bo : AV) (o4 o5 o6 : AO) : k33 a b c (.ofNat 5) it f g h 5 N2 xx bo (rep 5 row0) o4 o5 o6 = some (.str (strB (wBytes a b c (.ofNat 5) it 5))) := by kernel_rfl
theorem q33_9 (a b c it : Int) (f g h : Bool) (N2 : Nat) (xx : Bool) (bo : AV) (o4 o5 o6 : AO) : k33 a b c (.ofNat 9) it f g h 9 N2 xx bo (rep 9 row0) o4 o5 o6 = some (.str (strB (wBytes a b c (.ofNat 9) it 9))) := by kernel_rfl
theorem q33_13 (a b c it : Int) (f g h : Bool) (N2 : Nat) (xx : Bool) (bo : AV) (o4 o5 o6 : AO) : k33 a b c (.ofNat 13) it f g h 13 N2 xx bo (rep 13 row0) o4 o5 o6 = some (.str (strB (wBytes a b c (.ofNat 13) it 13))) := by kernel_rfl
theorem q33_17 (a b c it : Int) (f g h : Bool) (N2 : Nat) (xx : Bool) (bo : AV) (o4 o5 o6 : AO) : k33 a b c (.ofNat 17) it f g h 17 N2 xx bo (rep 17 row0) o4 o5 o6 = some (.str (strB (wBytes a b c (.ofNat 17) it 17))) := by kernel_rfl
theorem q33_21 (a b c it : Int) (f g h : Bool) (N2 : Nat) (xx : Bool) (bo : AV) (o4 o5 o6 : AO) : k33 a b c (.ofNat 21) it f g h 21 N2 xx bo (rep 21 row0) o4 o5 o6 = some (.str (strB (wBytes a b c (.ofNat 21) it 21))) := by kernel_rfl
theorem q33_25 (a b c it : Int) (f g h : Bool) (N2 : Nat) (xx : Bool) (bo : AV) (o4 o5 o6 : AO) : k33 a b c (.ofNat 25) it f g h 25 N2 xx bo (rep 25 row0) o4 o5 o6 = some (.str (strB (wBytes a b c (.ofNat 25) it 25))) := by kernel_rfl
theorem q33_29 (a b c it : Int) (f g h : Bool) (N2 : Nat) (xx : Bool) (bo : AV) (o4 o5 o6 : AO) : k33 a b c (.ofNat 29) it f g h 29 N2 xx bo (rep 29 row0) o4 o5 o6 = some (.str (strB (wBytes a b c (.ofNat 29) it 29))) := by kernel_rfl
theorem q33_33 (a b c it : Int) (f g h : Bool) (N2 : Nat) (xx : Bool) (bo : AV) (o4 o5 o6 : AO) : k33 a b c (.ofNat 33) it f g h 33 N2 xx bo (rep 33 row0) o4 o5 o6 = some (.str (strB (wBytes a b c (.ofNat 33) it 33))) := by kernel_rfl
theorem q33_37 (a b c it : Int) (f g h : Bool) (N2 : Nat) (xx : Bool) (bo : AV) (o4 o5 o6 : AO) : k33 a b c (.ofNat 37) it f g h 37 N2 xx bo (rep 37 row0) o4 o5 o6 = some (.str (strB (wBytes a b c (.ofNat 37) it 37))) := by kernel_rfl
theorem q33_41 (a b c it : Int) (f g h : Bool) (N2 : Nat) (xx : Bool) (bo : AV) (o4 o5 o6 : AO) : k33 a b c (.ofNat 41) it f g h 41 N2 xx bo (rep 41 row0) o4 o5 o6 = some (.str (strB (wBytes a b c (.ofNat 41) it 41))) := by kernel_rfl
theorem q33_45 (a b c it : Int) (f g h : Bool) (N2 : Nat) (xx : Bool) (bo : AV) (o4 o5 o6 : AO) : k33 a b c (.ofNat 45) it f g h 45 N2 xx bo (rep 45 row0) o4 o5 o6 = some (.str (strB (wBytes a b c (.ofNat 45) it 45))) := by kernel_rfl
theorem q33_49 (a b c it : Int) (f g h : Bool) (N2 : Nat) (xx : Bool) (bo : AV) (o4 o5 o6 : AO) : k33 a b c (.ofNat 49) it f g h 49 N2 xx bo (rep 49 row0) o4 o5 o6 = some (.str (strB (wBytes a b c (.ofNat 49) it 49))) := by kernel_rfl
theorem q33_53 (a b c it : Int) (f g h : Bool) (N2 : Nat) (xx : Bool) (bo : AV) (o4 o5 o6 : AO) : k33 a b c (.ofNat 53) it f g h 53 N2 xx bo (rep 53 row0) o4 o5 o6 = some (.str (strB (wBytes a b c (.ofNat 53) it 53))) := by kernel_rfl
theorem q33_57 (a b c it : Int) (f g h : Bool) (N2 : Nat) (xx : Bool) (bo : AV) (o4 o5 o6 : AO) : k33 a b c (.ofNat 57) it f g h 57 N2 xx bo (rep 57 row0) o4 o5 o6 = some (.str (strB (wBytes a b c (.ofNat 57) it 57))) := by kernel_rfl
theorem q33_61 (a b c it : Int) (f g h : Bool) (N2 : Nat) (xx : Bool) (bo : AV) (o4 o5 o6 : AO) : k33 a b c (.ofNat 61) it f g h 61 N2 xx bo (rep 61 row0) o4 o5 o6 = some (.str (strB (wBytes a b c (.ofNat 61) it 61))) := by kernel_rfl
end
end Go.VM

