/-
  No cell of these rows narrows 'for every input' (looked for: loops, veiled, ifaces, maps, wideKeys, modest, calm, conditions, laid).
  DERIVED. THE GIVEN ROWS OF THIS SEAT. 7 by the template 'for every input the law returns true; each argument reads behind the call as it read before'; 0 by the template 'total and deterministic' (their statements: YtchfpiimkmphjaaGreatTotals.lean).
  GIVEN WITH THE SEED: the statements are not yours to turn. If you find one false, say at which input.
  Laid BY PROGRAM, IN A SANDBOX (cutbox-rows.mjs): the forced cells as the released guide's own fill.sh prints them over the translation f788717e58afce76… (all of the seat's roots in one cut). By AI agents, Wed Nov 11 2026. No macro, syntax, notation, axiom, sorry.
-/
import Derived.Test.YtchfpiimkmphjaaGreatChecked
import GoSem.Claim
import GoSem.ClaimJoined
import GoSem.ClaimMapViews
import Derived.JoinedTies
import Derived.KernelRfl
namespace Go.Proofs.YtchfpiimkmphjaaGreat
/- THE CELL 'sum', in the pinned program and in every row, IS THE sha256 OF THE DUMP (.gsa) THAT YtchfpiimkmphjaaGreatProg.lean LOADS. Nothing in Lean hashes anything: it is a label: what it is worth is what the hold of that sum in a sandbox is worth. -/
noncomputable def Tryz.pinned : Pinned := { name := "ytchfpiimkmphjaagreat", sum := "f788717e58afce763082149e1985632dadd7fb38025f93906f64e5b5e36e4465", checked := Tryz.checked }
namespace Rows
def none {H : Type} : Left H := { results := [], args := [] }

/-- 'bagatellelaw08.RulesRefuse': WHATEVER THE INPUT: true; the input reads as it did. -/
def rulesRefuseSpec : ChangeSpec := { name := "rulesRefuse", fn := fun _ => fun
  | [d1, d2, d3] => { results := [.lit (.bool true)], args := [d1, d2, d3] }
  | _ => none }
def rulesRefuseRow : OpenClaim := { program := "ytchfpiimkmphjaagreat", sum := "f788717e58afce763082149e1985632dadd7fb38025f93906f64e5b5e36e4465", func := "bagatelle/bagatellelaw08.RulesRefuse", spec := "rulesRefuse", inPlace := ["math/bits.Add64", "math/bits.Sub64"], unfollowed := true, recurses := true, named := ["math/bits.divideError", "math/bits.overflowError"], apart := false }
def RulesRefuseSaid : Prop := rulesRefuseRow.holds Tryz.pinned (OpenSpec.ofChange rulesRefuseSpec)

/-- ITS FALSE NEIGHBOUR: 'it returns false'. Refute it at one input. -/
def rulesRefuseWrong : ChangeSpec := { name := "rulesRefuse", fn := fun _ => fun
  | [d1, d2, d3] => { results := [.lit (.bool false)], args := [d1, d2, d3] }
  | _ => none }
def RulesRefuseWrongFalsely : Prop := rulesRefuseRow.holds Tryz.pinned (OpenSpec.ofChange rulesRefuseWrong)

/-- 'bagatellelaw08.RulesKnown': WHATEVER THE INPUT: true; the input reads as it did. -/
def rulesKnownSpec : ChangeSpec := { name := "rulesKnown", fn := fun _ => fun
  | [] => { results := [.lit (.bool true)], args := [] }
  | _ => none }
def rulesKnownRow : OpenClaim := { program := "ytchfpiimkmphjaagreat", sum := "f788717e58afce763082149e1985632dadd7fb38025f93906f64e5b5e36e4465", func := "bagatelle/bagatellelaw08.RulesKnown", spec := "rulesKnown", inPlace := ["math/bits.Add64", "math/bits.Sub64"], unfollowed := true, recurses := true, named := ["math/bits.divideError", "math/bits.overflowError"], apart := false }
def RulesKnownSaid : Prop := rulesKnownRow.holds Tryz.pinned (OpenSpec.ofChange rulesKnownSpec)

/-- ITS FALSE NEIGHBOUR: 'it returns false'. Refute it at one input. -/
def rulesKnownWrong : ChangeSpec := { name := "rulesKnown", fn := fun _ => fun
  | [] => { results := [.lit (.bool false)], args := [] }
  | _ => none }
def RulesKnownWrongFalsely : Prop := rulesKnownRow.holds Tryz.pinned (OpenSpec.ofChange rulesKnownWrong)

/-- 'bagatellelaw08.RulesSessions': WHATEVER THE INPUT: true; the input reads as it did. -/
def rulesSessionsSpec : ChangeSpec := { name := "rulesSessions", fn := fun _ => fun
  | [d1, d2] => { results := [.lit (.bool true)], args := [d1, d2] }
  | _ => none }
def rulesSessionsRow : OpenClaim := { program := "ytchfpiimkmphjaagreat", sum := "f788717e58afce763082149e1985632dadd7fb38025f93906f64e5b5e36e4465", func := "bagatelle/bagatellelaw08.RulesSessions", spec := "rulesSessions", inPlace := ["math/bits.Add64", "math/bits.Sub64"], unfollowed := true, recurses := true, named := ["math/bits.divideError", "math/bits.overflowError"], apart := false }
def RulesSessionsSaid : Prop := rulesSessionsRow.holds Tryz.pinned (OpenSpec.ofChange rulesSessionsSpec)

/-- ITS FALSE NEIGHBOUR: 'it returns false'. Refute it at one input. -/
def rulesSessionsWrong : ChangeSpec := { name := "rulesSessions", fn := fun _ => fun
  | [d1, d2] => { results := [.lit (.bool false)], args := [d1, d2] }
  | _ => none }
def RulesSessionsWrongFalsely : Prop := rulesSessionsRow.holds Tryz.pinned (OpenSpec.ofChange rulesSessionsWrong)

/-- 'bagatellelaw06.WorldSetups': WHATEVER THE INPUT: true; the input reads as it did. -/
def worldSetupsSpec : ChangeSpec := { name := "worldSetups", fn := fun _ => fun
  | [d] => { results := [.lit (.bool true)], args := [d] }
  | _ => none }
def worldSetupsRow : OpenClaim := { program := "ytchfpiimkmphjaagreat", sum := "f788717e58afce763082149e1985632dadd7fb38025f93906f64e5b5e36e4465", func := "bagatelle/bagatellelaw06.WorldSetups", spec := "worldSetups", inPlace := ["math/bits.Add64", "math/bits.Sub64"], unfollowed := true, recurses := true, named := ["math/bits.divideError", "math/bits.overflowError"], apart := false }
def WorldSetupsSaid : Prop := worldSetupsRow.holds Tryz.pinned (OpenSpec.ofChange worldSetupsSpec)

/-- ITS FALSE NEIGHBOUR: 'it returns false'. Refute it at one input. -/
def worldSetupsWrong : ChangeSpec := { name := "worldSetups", fn := fun _ => fun
  | [d] => { results := [.lit (.bool false)], args := [d] }
  | _ => none }
def WorldSetupsWrongFalsely : Prop := worldSetupsRow.holds Tryz.pinned (OpenSpec.ofChange worldSetupsWrong)

/-- 'bagatellelaw06.WorldNil': WHATEVER THE INPUT: true; the input reads as it did. -/
def worldNilSpec : ChangeSpec := { name := "worldNil", fn := fun _ => fun
  | [d1, d2, d3, d4, d5, d6, d7] => { results := [.lit (.bool true)], args := [d1, d2, d3, d4, d5, d6, d7] }
  | _ => none }
def worldNilRow : OpenClaim := { program := "ytchfpiimkmphjaagreat", sum := "f788717e58afce763082149e1985632dadd7fb38025f93906f64e5b5e36e4465", func := "bagatelle/bagatellelaw06.WorldNil", spec := "worldNil", inPlace := ["math/bits.Add64", "math/bits.Sub64", "maps.clone"], unfollowed := true, recurses := true, named := ["math/bits.divideError", "math/bits.overflowError"], apart := false }
def WorldNilSaid : Prop := worldNilRow.holds Tryz.pinned (OpenSpec.ofChange worldNilSpec)

/-- ITS FALSE NEIGHBOUR: 'it returns false'. Refute it at one input. -/
def worldNilWrong : ChangeSpec := { name := "worldNil", fn := fun _ => fun
  | [d1, d2, d3, d4, d5, d6, d7] => { results := [.lit (.bool false)], args := [d1, d2, d3, d4, d5, d6, d7] }
  | _ => none }
def WorldNilWrongFalsely : Prop := worldNilRow.holds Tryz.pinned (OpenSpec.ofChange worldNilWrong)

/-- 'bagatellelaw06.WorldKnown': WHATEVER THE INPUT: true; the input reads as it did. -/
def worldKnownSpec : ChangeSpec := { name := "worldKnown", fn := fun _ => fun
  | [] => { results := [.lit (.bool true)], args := [] }
  | _ => none }
def worldKnownRow : OpenClaim := { program := "ytchfpiimkmphjaagreat", sum := "f788717e58afce763082149e1985632dadd7fb38025f93906f64e5b5e36e4465", func := "bagatelle/bagatellelaw06.WorldKnown", spec := "worldKnown", inPlace := ["math/bits.Add64", "math/bits.Sub64"], unfollowed := true, recurses := true, named := ["math/bits.divideError", "math/bits.overflowError"], apart := false }
def WorldKnownSaid : Prop := worldKnownRow.holds Tryz.pinned (OpenSpec.ofChange worldKnownSpec)

/-- ITS FALSE NEIGHBOUR: 'it returns false'. Refute it at one input. -/
def worldKnownWrong : ChangeSpec := { name := "worldKnown", fn := fun _ => fun
  | [] => { results := [.lit (.bool false)], args := [] }
  | _ => none }
def WorldKnownWrongFalsely : Prop := worldKnownRow.holds Tryz.pinned (OpenSpec.ofChange worldKnownWrong)

/-- 'bagatellelaw08.RulesNil': WHATEVER THE INPUT: true; the input reads as it did. -/
def rulesNilSpec : ChangeSpec := { name := "rulesNil", fn := fun _ => fun
  | [d1, d2, d3] => { results := [.lit (.bool true)], args := [d1, d2, d3] }
  | _ => none }
def rulesNilRow : OpenClaim := { program := "ytchfpiimkmphjaagreat", sum := "f788717e58afce763082149e1985632dadd7fb38025f93906f64e5b5e36e4465", func := "bagatelle/bagatellelaw08.RulesNil", spec := "rulesNil", inPlace := ["math/bits.Add64", "math/bits.Sub64", "maps.clone"], unfollowed := true, recurses := true, named := ["math/bits.divideError", "math/bits.overflowError"], apart := false }
def RulesNilSaid : Prop := rulesNilRow.holds Tryz.pinned (OpenSpec.ofChange rulesNilSpec)

/-- ITS FALSE NEIGHBOUR: 'it returns false'. Refute it at one input. -/
def rulesNilWrong : ChangeSpec := { name := "rulesNil", fn := fun _ => fun
  | [d1, d2, d3] => { results := [.lit (.bool false)], args := [d1, d2, d3] }
  | _ => none }
def RulesNilWrongFalsely : Prop := rulesNilRow.holds Tryz.pinned (OpenSpec.ofChange rulesNilWrong)

/- THE SECOND FORM. 'bulk': how many values and letters a reading holds, each counted each time it is reached (what is shared counts as often as it is met; a slice's spare places count too). A statement '..UptoSaid' is the law's where the arguments, and the package variables that the reading takes, are together of bulk at most 1048576: NARROWER than '..Said'. Prove '..Said' where nothing that the law and all that it calls make is longer than what came in: it says more and counts as full. Else prove '..UptoSaid'. A law counts once. -/
mutual
def uptoBulk {H : Type} : DataW H → Nat
  | .lit (.string bytes) => bytes.length + 1
  | .lit _ => 1
  | .nil => 1
  | .ptr d => uptoBulk d + 1
  | .slice elems spare => uptoBulkAll elems + uptoBulkAll spare + 1
  | .agg parts => uptoBulkAll parts + 1
  | .iface _ d => uptoBulk d + 1
  | .map entries => uptoBulkEntries entries + 1
  | .held _ => 1
def uptoBulkAll {H : Type} : List (DataW H) → Nat
  | [] => 0
  | d :: r => uptoBulk d + uptoBulkAll r
def uptoBulkEntries {H : Type} : List (Lit × DataW H) → Nat
  | [] => 0
  | x :: r => uptoBulkEntry x + uptoBulkEntries r
def uptoBulkEntry {H : Type} : Lit × DataW H → Nat
  | (.string bytes, d) => bytes.length + uptoBulk d + 1
  | (_, d) => uptoBulk d + 1
 end
def uptoSmall : (H : Type) → List (DataW H) → Bool := fun _ ds => decide (uptoBulkAll ds ≤ 1048576)
def OpenSpec.upto (s : _root_.Go.ChangeSpec) : _root_.Go.OpenSpec := { _root_.Go.OpenSpec.ofChange s with cond := some uptoSmall }

/-- 'bagatellelaw08.RulesRefuse', WHERE WHAT IT READS IS OF BULK AT MOST 1048576: true; the input reads as it did. -/
def rulesRefuseUptoRow : OpenClaim := { program := "ytchfpiimkmphjaagreat", sum := "f788717e58afce763082149e1985632dadd7fb38025f93906f64e5b5e36e4465", func := "bagatelle/bagatellelaw08.RulesRefuse", spec := "rulesRefuse", inPlace := ["math/bits.Add64", "math/bits.Sub64"], unfollowed := true, recurses := true, named := ["math/bits.divideError", "math/bits.overflowError"], apart := false, narrowed := true }
def RulesRefuseUptoSaid : Prop := rulesRefuseUptoRow.holds Tryz.pinned (OpenSpec.upto rulesRefuseSpec)

/-- 'bagatellelaw08.RulesKnown', WHERE WHAT IT READS IS OF BULK AT MOST 1048576: true; the input reads as it did. -/
def rulesKnownUptoRow : OpenClaim := { program := "ytchfpiimkmphjaagreat", sum := "f788717e58afce763082149e1985632dadd7fb38025f93906f64e5b5e36e4465", func := "bagatelle/bagatellelaw08.RulesKnown", spec := "rulesKnown", inPlace := ["math/bits.Add64", "math/bits.Sub64"], unfollowed := true, recurses := true, named := ["math/bits.divideError", "math/bits.overflowError"], apart := false, narrowed := true }
def RulesKnownUptoSaid : Prop := rulesKnownUptoRow.holds Tryz.pinned (OpenSpec.upto rulesKnownSpec)

/-- 'bagatellelaw08.RulesSessions', WHERE WHAT IT READS IS OF BULK AT MOST 1048576: true; the input reads as it did. -/
def rulesSessionsUptoRow : OpenClaim := { program := "ytchfpiimkmphjaagreat", sum := "f788717e58afce763082149e1985632dadd7fb38025f93906f64e5b5e36e4465", func := "bagatelle/bagatellelaw08.RulesSessions", spec := "rulesSessions", inPlace := ["math/bits.Add64", "math/bits.Sub64"], unfollowed := true, recurses := true, named := ["math/bits.divideError", "math/bits.overflowError"], apart := false, narrowed := true }
def RulesSessionsUptoSaid : Prop := rulesSessionsUptoRow.holds Tryz.pinned (OpenSpec.upto rulesSessionsSpec)

/-- 'bagatellelaw06.WorldSetups', WHERE WHAT IT READS IS OF BULK AT MOST 1048576: true; the input reads as it did. -/
def worldSetupsUptoRow : OpenClaim := { program := "ytchfpiimkmphjaagreat", sum := "f788717e58afce763082149e1985632dadd7fb38025f93906f64e5b5e36e4465", func := "bagatelle/bagatellelaw06.WorldSetups", spec := "worldSetups", inPlace := ["math/bits.Add64", "math/bits.Sub64"], unfollowed := true, recurses := true, named := ["math/bits.divideError", "math/bits.overflowError"], apart := false, narrowed := true }
def WorldSetupsUptoSaid : Prop := worldSetupsUptoRow.holds Tryz.pinned (OpenSpec.upto worldSetupsSpec)

/-- 'bagatellelaw06.WorldNil', WHERE WHAT IT READS IS OF BULK AT MOST 1048576: true; the input reads as it did. -/
def worldNilUptoRow : OpenClaim := { program := "ytchfpiimkmphjaagreat", sum := "f788717e58afce763082149e1985632dadd7fb38025f93906f64e5b5e36e4465", func := "bagatelle/bagatellelaw06.WorldNil", spec := "worldNil", inPlace := ["math/bits.Add64", "math/bits.Sub64", "maps.clone"], unfollowed := true, recurses := true, named := ["math/bits.divideError", "math/bits.overflowError"], apart := false, narrowed := true }
def WorldNilUptoSaid : Prop := worldNilUptoRow.holds Tryz.pinned (OpenSpec.upto worldNilSpec)

/-- 'bagatellelaw06.WorldKnown', WHERE WHAT IT READS IS OF BULK AT MOST 1048576: true; the input reads as it did. -/
def worldKnownUptoRow : OpenClaim := { program := "ytchfpiimkmphjaagreat", sum := "f788717e58afce763082149e1985632dadd7fb38025f93906f64e5b5e36e4465", func := "bagatelle/bagatellelaw06.WorldKnown", spec := "worldKnown", inPlace := ["math/bits.Add64", "math/bits.Sub64"], unfollowed := true, recurses := true, named := ["math/bits.divideError", "math/bits.overflowError"], apart := false, narrowed := true }
def WorldKnownUptoSaid : Prop := worldKnownUptoRow.holds Tryz.pinned (OpenSpec.upto worldKnownSpec)

/-- 'bagatellelaw08.RulesNil', WHERE WHAT IT READS IS OF BULK AT MOST 1048576: true; the input reads as it did. -/
def rulesNilUptoRow : OpenClaim := { program := "ytchfpiimkmphjaagreat", sum := "f788717e58afce763082149e1985632dadd7fb38025f93906f64e5b5e36e4465", func := "bagatelle/bagatellelaw08.RulesNil", spec := "rulesNil", inPlace := ["math/bits.Add64", "math/bits.Sub64", "maps.clone"], unfollowed := true, recurses := true, named := ["math/bits.divideError", "math/bits.overflowError"], apart := false, narrowed := true }
def RulesNilUptoSaid : Prop := rulesNilUptoRow.holds Tryz.pinned (OpenSpec.upto rulesNilSpec)

end Rows
end Go.Proofs.YtchfpiimkmphjaaGreat
