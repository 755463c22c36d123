/- A part of the proof: P33a. No condition. -/
import Derived.Test.YtchfpiimkmphjaaGreatP33
namespace Go.VM
open Go
set_option maxRecDepth 1000000
noncomputable section
theorem q33_4 (a b c it : Int) (f g h : Bool) (N2 : Nat) (xx : Bool) (bo : AV) (o4 o5 o6 : AO) : k33 a b c (.ofNat 4) it f g h 4 N2 xx bo (rep 4 row0) o4 o5 o6 = some (.str (strB (wBytes a b c (.ofNat 4) it 4))) := by kernel_rfl
theorem q33_8 (a b c it : Int) (f g h : Bool) (N2 : Nat) (xx : Bool) (bo : AV) (o4 o5 o6 : AO) : k33 a b c (.ofNat 8) it f g h 8 N2 xx bo (rep 8 row0) o4 o5 o6 = some (.str (strB (wBytes a b c (.ofNat 8) it 8))) := by kernel_rfl
theorem q33_12 (a b c it : Int) (f g h : Bool) (N2 : Nat) (xx : Bool) (bo : AV) (o4 o5 o6 : AO) : k33 a b c (.ofNat 12) it f g h 12 N2 xx bo (rep 12 row0) o4 o5 o6 = some (.str (strB (wBytes a b c (.ofNat 12) it 12))) := by kernel_rfl
theorem q33_16 (a b c it : Int) (f g h : Bool) (N2 : Nat) (xx : Bool) (bo : AV) (o4 o5 o6 : AO) : k33 a b c (.ofNat 16) it f g h 16 N2 xx bo (rep 16 row0) o4 o5 o6 = some (.str (strB (wBytes a b c (.ofNat 16) it 16))) := by kernel_rfl
theorem q33_20 (a b c it : Int) (f g h : Bool) (N2 : Nat) (xx : Bool) (bo : AV) (o4 o5 o6 : AO) : k33 a b c (.ofNat 20) it f g h 20 N2 xx bo (rep 20 row0) o4 o5 o6 = some (.str (strB (wBytes a b c (.ofNat 20) it 20))) := by kernel_rfl
theorem q33_24 (a b c it : Int) (f g h : Bool) (N2 : Nat) (xx : Bool) (bo : AV) (o4 o5 o6 : AO) : k33 a b c (.ofNat 24) it f g h 24 N2 xx bo (rep 24 row0) o4 o5 o6 = some (.str (strB (wBytes a b c (.ofNat 24) it 24))) := by kernel_rfl
theorem q33_28 (a b c it : Int) (f g h : Bool) (N2 : Nat) (xx : Bool) (bo : AV) (o4 o5 o6 : AO) : k33 a b c (.ofNat 28) it f g h 28 N2 xx bo (rep 28 row0) o4 o5 o6 = some (.str (strB (wBytes a b c (.ofNat 28) it 28))) := by kernel_rfl
theorem q33_32 (a b c it : Int) (f g h : Bool) (N2 : Nat) (xx : Bool) (bo : AV) (o4 o5 o6 : AO) : k33 a b c (.ofNat 32) it f g h 32 N2 xx bo (rep 32 row0) o4 o5 o6 = some (.str (strB (wBytes a b c (.ofNat 32) it 32))) := by kernel_rfl
theorem q33_36 (a b c it : Int) (f g h : Bool) (N2 : Nat) (xx : Bool) (bo : AV) (o4 o5 o6 : AO) : k33 a b c (.ofNat 36) it f g h 36 N2 xx bo (rep 36 row0) o4 o5 o6 = some (.str (strB (wBytes a b c (.ofNat 36) it 36))) := by kernel_rfl
theorem q33_40 (a b c it : Int) (f g h : Bool) (N2 : Nat) (xx : Bool) (bo : AV) (o4 o5 o6 : AO) : k33 a b c (.ofNat 40) it f g h 40 N2 xx bo (rep 40 row0) o4 o5 o6 = some (.str (strB (wBytes a b c (.ofNat 40) it 40))) := by kernel_rfl
theorem q33_44 (a b c it : Int) (f g h : Bool) (N2 : Nat) (xx : Bool) (bo : AV) (o4 o5 o6 : AO) : k33 a b c (.ofNat 44) it f g h 44 N2 xx bo (rep 44 row0) o4 o5 o6 = some (.str (strB (wBytes a b c (.ofNat 44) it 44))) := by kernel_rfl
theorem q33_48 (a b c it : Int) (f g h : Bool) (N2 : Nat) (xx : Bool) (bo : AV) (o4 o5 o6 : AO) : k33 a b c (.ofNat 48) it f g h 48 N2 xx bo (rep 48 row0) o4 o5 o6 = some (.str (strB (wBytes a b c (.ofNat 48) it 48))) := by kernel_rfl
theorem q33_52 (a b c it : Int) (f g h : Bool) (N2 : Nat) (xx : Bool) (bo : AV) (o4 o5 o6 : AO) : k33 a b c (.ofNat 52) it f g h 52 N2 xx bo (rep 52 row0) o4 o5 o6 = some (.str (strB (wBytes a b c (.ofNat 52) it 52))) := by kernel_rfl
theorem q33_56 (a b c it : Int) (f g h : Bool) (N2 : Nat) (xx : Bool) (bo : AV) (o4 o5 o6 : AO) : k33 a b c (.ofNat 56) it f g h 56 N2 xx bo (rep 56 row0) o4 o5 o6 = some (.str (strB (wBytes a b c (.ofNat 56) it 56))) := by kernel_rfl
theorem q33_60 (a b c it : Int) (f g h : Bool) (N2 : Nat) (xx : Bool) (bo : AV) (o4 o5 o6 : AO) : k33 a b c (.ofNat 60) it f g h 60 N2 xx bo (rep 60 row0) o4 o5 o6 = some (.str (strB (wBytes a b c (.ofNat 60) it 60))) := by kernel_rfl
theorem q33_64 (a b c it : Int) (f g h : Bool) (N2 : Nat) (xx : Bool) (bo : AV) (o4 o5 o6 : AO) : k33 a b c (.ofNat 64) it f g h 64 N2 xx bo (rep 64 row0) o4 o5 o6 = some (.str (strB (wBytes a b c (.ofNat 64) it 64))) := by kernel_rfl
end
end Go.VM

