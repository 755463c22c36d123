/- A part of the proof: P33d. No condition. -/
import Derived.Test.YtchfpiimkmphjaaGreatP33
namespace Go.VM
open Go
set_option maxRecDepth 1000000
noncomputable section
theorem q33_3 (a b c it : Int) (f g h : Bool) (N2 : Nat) (xx : Bool) (bo : AV) (o4 o5 o6 : AO) : k33 a b c (.ofNat 3) it f g h 3 N2 xx bo (rep 3 row0) o4 o5 o6 = some (.str (strB (wBytes a b c (.ofNat 3) it 3))) := by kernel_rfl
theorem q33_7 (a b c it : Int) (f g h : Bool) (N2 : Nat) (xx : Bool) (bo : AV) (o4 o5 o6 : AO) : k33 a b c (.ofNat 7) it f g h 7 N2 xx bo (rep 7 row0) o4 o5 o6 = some (.str (strB (wBytes a b c (.ofNat 7) it 7))) := by kernel_rfl
theorem q33_11 (a b c it : Int) (f g h : Bool) (N2 : Nat) (xx : Bool) (bo : AV) (o4 o5 o6 : AO) : k33 a b c (.ofNat 11) it f g h 11 N2 xx bo (rep 11 row0) o4 o5 o6 = some (.str (strB (wBytes a b c (.ofNat 11) it 11))) := by kernel_rfl
theorem q33_15 (a b c it : Int) (f g h : Bool) (N2 : Nat) (xx : Bool) (bo : AV) (o4 o5 o6 : AO) : k33 a b c (.ofNat 15) it f g h 15 N2 xx bo (rep 15 row0) o4 o5 o6 = some (.str (strB (wBytes a b c (.ofNat 15) it 15))) := by kernel_rfl
theorem q33_19 (a b c it : Int) (f g h : Bool) (N2 : Nat) (xx : Bool) (bo : AV) (o4 o5 o6 : AO) : k33 a b c (.ofNat 19) it f g h 19 N2 xx bo (rep 19 row0) o4 o5 o6 = some (.str (strB (wBytes a b c (.ofNat 19) it 19))) := by kernel_rfl
theorem q33_23 (a b c it : Int) (f g h : Bool) (N2 : Nat) (xx : Bool) (bo : AV) (o4 o5 o6 : AO) : k33 a b c (.ofNat 23) it f g h 23 N2 xx bo (rep 23 row0) o4 o5 o6 = some (.str (strB (wBytes a b c (.ofNat 23) it 23))) := by kernel_rfl
theorem q33_27 (a b c it : Int) (f g h : Bool) (N2 : Nat) (xx : Bool) (bo : AV) (o4 o5 o6 : AO) : k33 a b c (.ofNat 27) it f g h 27 N2 xx bo (rep 27 row0) o4 o5 o6 = some (.str (strB (wBytes a b c (.ofNat 27) it 27))) := by kernel_rfl
theorem q33_31 (a b c it : Int) (f g h : Bool) (N2 : Nat) (xx : Bool) (bo : AV) (o4 o5 o6 : AO) : k33 a b c (.ofNat 31) it f g h 31 N2 xx bo (rep 31 row0) o4 o5 o6 = some (.str (strB (wBytes a b c (.ofNat 31) it 31))) := by kernel_rfl
theorem q33_35 (a b c it : Int) (f g h : Bool) (N2 : Nat) (xx : Bool) (bo : AV) (o4 o5 o6 : AO) : k33 a b c (.ofNat 35) it f g h 35 N2 xx bo (rep 35 row0) o4 o5 o6 = some (.str (strB (wBytes a b c (.ofNat 35) it 35))) := by kernel_rfl
theorem q33_39 (a b c it : Int) (f g h : Bool) (N2 : Nat) (xx : Bool) (bo : AV) (o4 o5 o6 : AO) : k33 a b c (.ofNat 39) it f g h 39 N2 xx bo (rep 39 row0) o4 o5 o6 = some (.str (strB (wBytes a b c (.ofNat 39) it 39))) := by kernel_rfl
theorem q33_43 (a b c it : Int) (f g h : Bool) (N2 : Nat) (xx : Bool) (bo : AV) (o4 o5 o6 : AO) : k33 a b c (.ofNat 43) it f g h 43 N2 xx bo (rep 43 row0) o4 o5 o6 = some (.str (strB (wBytes a b c (.ofNat 43) it 43))) := by kernel_rfl
theorem q33_47 (a b c it : Int) (f g h : Bool) (N2 : Nat) (xx : Bool) (bo : AV) (o4 o5 o6 : AO) : k33 a b c (.ofNat 47) it f g h 47 N2 xx bo (rep 47 row0) o4 o5 o6 = some (.str (strB (wBytes a b c (.ofNat 47) it 47))) := by kernel_rfl
theorem q33_51 (a b c it : Int) (f g h : Bool) (N2 : Nat) (xx : Bool) (bo : AV) (o4 o5 o6 : AO) : k33 a b c (.ofNat 51) it f g h 51 N2 xx bo (rep 51 row0) o4 o5 o6 = some (.str (strB (wBytes a b c (.ofNat 51) it 51))) := by kernel_rfl
theorem q33_55 (a b c it : Int) (f g h : Bool) (N2 : Nat) (xx : Bool) (bo : AV) (o4 o5 o6 : AO) : k33 a b c (.ofNat 55) it f g h 55 N2 xx bo (rep 55 row0) o4 o5 o6 = some (.str (strB (wBytes a b c (.ofNat 55) it 55))) := by kernel_rfl
theorem q33_59 (a b c it : Int) (f g h : Bool) (N2 : Nat) (xx : Bool) (bo : AV) (o4 o5 o6 : AO) : k33 a b c (.ofNat 59) it f g h 59 N2 xx bo (rep 59 row0) o4 o5 o6 = some (.str (strB (wBytes a b c (.ofNat 59) it 59))) := by kernel_rfl
theorem q33_63 (a b c it : Int) (f g h : Bool) (N2 : Nat) (xx : Bool) (bo : AV) (o4 o5 o6 : AO) : k33 a b c (.ofNat 63) it f g h 63 N2 xx bo (rep 63 row0) o4 o5 o6 = some (.str (strB (wBytes a b c (.ofNat 63) it 63))) := by kernel_rfl
end
end Go.VM

