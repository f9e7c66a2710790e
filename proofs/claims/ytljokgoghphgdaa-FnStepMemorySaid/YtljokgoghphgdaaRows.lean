/-
  No cell of these rows narrows 'for every input' (looked for: loops, veiled, ifaces, maps, wideKeys, modest, calm, conditions, laid).
  DERIVED. THE GIVEN ROWS OF THIS SEAT. 11 by the template 'for every input the law returns true; each argument reads behind the call as it read before'; 0 by the template 'total and deterministic' (their statements: YtljokgoghphgdaaTotals.lean).
  GIVEN WITH THE SEED: the statements are not yours to turn. If you find one false, say at which input.
  Laid BY PROGRAM, IN A SANDBOX (cutbox-rows.mjs): the forced cells as the released guide's own fill.sh prints them over the translation b2bcb43a67b453b5… (all of the seat's roots in one cut). By AI agents, Wed Nov 11 2026. No macro, syntax, notation, axiom, sorry.
-/
import Derived.Test.YtljokgoghphgdaaChecked
import GoSem.Claim
import GoSem.ClaimJoined
import GoSem.ClaimMapViews
import Derived.JoinedTies
import Derived.KernelRfl
namespace Go.Proofs.Ytljokgoghphgdaa
/- THE CELL 'sum', in the pinned program and in every row, IS THE sha256 OF THE DUMP (.gsa) THAT YtljokgoghphgdaaProg.lean LOADS. Nothing in Lean hashes anything: it is a label: what it is worth is what the hold of that sum in a sandbox is worth. -/
noncomputable def Try.pinned : Pinned := { name := "ytljokgoghphgdaa", sum := "b2bcb43a67b453b5fac7964cec24f1c965efe96f2ae9b559999243bd9e1ac45a", checked := Try.checked }
namespace Rows
def none {H : Type} : Left H := { results := [], args := [] }

/-- 'laws.FnStepMachine': WHATEVER THE INPUT: true; the input reads as it did. -/
def fnStepMachineSpec : ChangeSpec := { name := "fnStepMachine", fn := fun _ => fun
  | [d] => { results := [.lit (.bool true)], args := [d] }
  | _ => none }
def fnStepMachineRow : OpenClaim := { program := "ytljokgoghphgdaa", sum := "b2bcb43a67b453b5fac7964cec24f1c965efe96f2ae9b559999243bd9e1ac45a", func := "loop.example/constanttime/laws.FnStepMachine", spec := "fnStepMachine", unfollowed := true, recurses := true, apart := false }
def FnStepMachineSaid : Prop := fnStepMachineRow.holds Try.pinned (OpenSpec.ofChange fnStepMachineSpec)

/-- ITS FALSE NEIGHBOUR: 'it returns false'. Refute it at one input. -/
def fnStepMachineWrong : ChangeSpec := { name := "fnStepMachine", fn := fun _ => fun
  | [d] => { results := [.lit (.bool false)], args := [d] }
  | _ => none }
def FnStepMachineWrongFalsely : Prop := fnStepMachineRow.holds Try.pinned (OpenSpec.ofChange fnStepMachineWrong)

/-- 'laws.FnRunDeterministic': WHATEVER THE INPUT: true; the input reads as it did. -/
def fnRunDeterministicSpec : ChangeSpec := { name := "fnRunDeterministic", fn := fun _ => fun
  | [d] => { results := [.lit (.bool true)], args := [d] }
  | _ => none }
def fnRunDeterministicRow : OpenClaim := { program := "ytljokgoghphgdaa", sum := "b2bcb43a67b453b5fac7964cec24f1c965efe96f2ae9b559999243bd9e1ac45a", func := "loop.example/constanttime/laws.FnRunDeterministic", spec := "fnRunDeterministic", unfollowed := true, recurses := true, apart := false }
def FnRunDeterministicSaid : Prop := fnRunDeterministicRow.holds Try.pinned (OpenSpec.ofChange fnRunDeterministicSpec)

/-- ITS FALSE NEIGHBOUR: 'it returns false'. Refute it at one input. -/
def fnRunDeterministicWrong : ChangeSpec := { name := "fnRunDeterministic", fn := fun _ => fun
  | [d] => { results := [.lit (.bool false)], args := [d] }
  | _ => none }
def FnRunDeterministicWrongFalsely : Prop := fnRunDeterministicRow.holds Try.pinned (OpenSpec.ofChange fnRunDeterministicWrong)

/-- 'laws.FnRunCode': WHATEVER THE INPUT: true; the input reads as it did. -/
def fnRunCodeSpec : ChangeSpec := { name := "fnRunCode", fn := fun _ => fun
  | [d] => { results := [.lit (.bool true)], args := [d] }
  | _ => none }
def fnRunCodeRow : OpenClaim := { program := "ytljokgoghphgdaa", sum := "b2bcb43a67b453b5fac7964cec24f1c965efe96f2ae9b559999243bd9e1ac45a", func := "loop.example/constanttime/laws.FnRunCode", spec := "fnRunCode", unfollowed := true, recurses := true, apart := false }
def FnRunCodeSaid : Prop := fnRunCodeRow.holds Try.pinned (OpenSpec.ofChange fnRunCodeSpec)

/-- ITS FALSE NEIGHBOUR: 'it returns false'. Refute it at one input. -/
def fnRunCodeWrong : ChangeSpec := { name := "fnRunCode", fn := fun _ => fun
  | [d] => { results := [.lit (.bool false)], args := [d] }
  | _ => none }
def FnRunCodeWrongFalsely : Prop := fnRunCodeRow.holds Try.pinned (OpenSpec.ofChange fnRunCodeWrong)

/-- 'laws.FnStartMachine': WHATEVER THE INPUT: true; the input reads as it did. -/
def fnStartMachineSpec : ChangeSpec := { name := "fnStartMachine", fn := fun _ => fun
  | [d] => { results := [.lit (.bool true)], args := [d] }
  | _ => none }
def fnStartMachineRow : OpenClaim := { program := "ytljokgoghphgdaa", sum := "b2bcb43a67b453b5fac7964cec24f1c965efe96f2ae9b559999243bd9e1ac45a", func := "loop.example/constanttime/laws.FnStartMachine", spec := "fnStartMachine", unfollowed := true, recurses := true, apart := false }
def FnStartMachineSaid : Prop := fnStartMachineRow.holds Try.pinned (OpenSpec.ofChange fnStartMachineSpec)

/-- ITS FALSE NEIGHBOUR: 'it returns false'. Refute it at one input. -/
def fnStartMachineWrong : ChangeSpec := { name := "fnStartMachine", fn := fun _ => fun
  | [d] => { results := [.lit (.bool false)], args := [d] }
  | _ => none }
def FnStartMachineWrongFalsely : Prop := fnStartMachineRow.holds Try.pinned (OpenSpec.ofChange fnStartMachineWrong)

/-- 'laws.FnMachineSame': WHATEVER THE INPUT: true; the input reads as it did. -/
def fnMachineSameSpec : ChangeSpec := { name := "fnMachineSame", fn := fun _ => fun
  | [d] => { results := [.lit (.bool true)], args := [d] }
  | _ => none }
def fnMachineSameRow : OpenClaim := { program := "ytljokgoghphgdaa", sum := "b2bcb43a67b453b5fac7964cec24f1c965efe96f2ae9b559999243bd9e1ac45a", func := "loop.example/constanttime/laws.FnMachineSame", spec := "fnMachineSame", unfollowed := true, recurses := true, apart := false }
def FnMachineSameSaid : Prop := fnMachineSameRow.holds Try.pinned (OpenSpec.ofChange fnMachineSameSpec)

/-- ITS FALSE NEIGHBOUR: 'it returns false'. Refute it at one input. -/
def fnMachineSameWrong : ChangeSpec := { name := "fnMachineSame", fn := fun _ => fun
  | [d] => { results := [.lit (.bool false)], args := [d] }
  | _ => none }
def FnMachineSameWrongFalsely : Prop := fnMachineSameRow.holds Try.pinned (OpenSpec.ofChange fnMachineSameWrong)

/-- 'laws.FnStepHalt': WHATEVER THE INPUT: true; the input reads as it did. -/
def fnStepHaltSpec : ChangeSpec := { name := "fnStepHalt", fn := fun _ => fun
  | [d] => { results := [.lit (.bool true)], args := [d] }
  | _ => none }
def fnStepHaltRow : OpenClaim := { program := "ytljokgoghphgdaa", sum := "b2bcb43a67b453b5fac7964cec24f1c965efe96f2ae9b559999243bd9e1ac45a", func := "loop.example/constanttime/laws.FnStepHalt", spec := "fnStepHalt", unfollowed := true, recurses := true, apart := false }
def FnStepHaltSaid : Prop := fnStepHaltRow.holds Try.pinned (OpenSpec.ofChange fnStepHaltSpec)

/-- ITS FALSE NEIGHBOUR: 'it returns false'. Refute it at one input. -/
def fnStepHaltWrong : ChangeSpec := { name := "fnStepHalt", fn := fun _ => fun
  | [d] => { results := [.lit (.bool false)], args := [d] }
  | _ => none }
def FnStepHaltWrongFalsely : Prop := fnStepHaltRow.holds Try.pinned (OpenSpec.ofChange fnStepHaltWrong)

/-- 'laws.FnStepMemory': WHATEVER THE INPUT: true; the input reads as it did. -/
def fnStepMemorySpec : ChangeSpec := { name := "fnStepMemory", fn := fun _ => fun
  | [d] => { results := [.lit (.bool true)], args := [d] }
  | _ => none }
def fnStepMemoryRow : OpenClaim := { program := "ytljokgoghphgdaa", sum := "b2bcb43a67b453b5fac7964cec24f1c965efe96f2ae9b559999243bd9e1ac45a", func := "loop.example/constanttime/laws.FnStepMemory", spec := "fnStepMemory", unfollowed := true, recurses := true, apart := false }
def FnStepMemorySaid : Prop := fnStepMemoryRow.holds Try.pinned (OpenSpec.ofChange fnStepMemorySpec)

/-- ITS FALSE NEIGHBOUR: 'it returns false'. Refute it at one input. -/
def fnStepMemoryWrong : ChangeSpec := { name := "fnStepMemory", fn := fun _ => fun
  | [d] => { results := [.lit (.bool false)], args := [d] }
  | _ => none }
def FnStepMemoryWrongFalsely : Prop := fnStepMemoryRow.holds Try.pinned (OpenSpec.ofChange fnStepMemoryWrong)

/-- 'laws.FnStepNext': WHATEVER THE INPUT: true; the input reads as it did. -/
def fnStepNextSpec : ChangeSpec := { name := "fnStepNext", fn := fun _ => fun
  | [d] => { results := [.lit (.bool true)], args := [d] }
  | _ => none }
def fnStepNextRow : OpenClaim := { program := "ytljokgoghphgdaa", sum := "b2bcb43a67b453b5fac7964cec24f1c965efe96f2ae9b559999243bd9e1ac45a", func := "loop.example/constanttime/laws.FnStepNext", spec := "fnStepNext", unfollowed := true, recurses := true, apart := false }
def FnStepNextSaid : Prop := fnStepNextRow.holds Try.pinned (OpenSpec.ofChange fnStepNextSpec)

/-- ITS FALSE NEIGHBOUR: 'it returns false'. Refute it at one input. -/
def fnStepNextWrong : ChangeSpec := { name := "fnStepNext", fn := fun _ => fun
  | [d] => { results := [.lit (.bool false)], args := [d] }
  | _ => none }
def FnStepNextWrongFalsely : Prop := fnStepNextRow.holds Try.pinned (OpenSpec.ofChange fnStepNextWrong)

/-- 'laws.FnExactStartMachine': WHATEVER THE INPUT: true; the input reads as it did. -/
def fnExactStartMachineSpec : ChangeSpec := { name := "fnExactStartMachine", fn := fun _ => fun
  | [d1, d2] => { results := [.lit (.bool true)], args := [d1, d2] }
  | _ => none }
def fnExactStartMachineRow : OpenClaim := { program := "ytljokgoghphgdaa", sum := "b2bcb43a67b453b5fac7964cec24f1c965efe96f2ae9b559999243bd9e1ac45a", func := "loop.example/constanttime/laws.FnExactStartMachine", spec := "fnExactStartMachine", unfollowed := true, recurses := true, apart := false }
def FnExactStartMachineSaid : Prop := fnExactStartMachineRow.holds Try.pinned (OpenSpec.ofChange fnExactStartMachineSpec)

/-- ITS FALSE NEIGHBOUR: 'it returns false'. Refute it at one input. -/
def fnExactStartMachineWrong : ChangeSpec := { name := "fnExactStartMachine", fn := fun _ => fun
  | [d1, d2] => { results := [.lit (.bool false)], args := [d1, d2] }
  | _ => none }
def FnExactStartMachineWrongFalsely : Prop := fnExactStartMachineRow.holds Try.pinned (OpenSpec.ofChange fnExactStartMachineWrong)

/-- 'laws.FnExactRunCode': WHATEVER THE INPUT: true; the input reads as it did. -/
def fnExactRunCodeSpec : ChangeSpec := { name := "fnExactRunCode", fn := fun _ => fun
  | [d1, d2] => { results := [.lit (.bool true)], args := [d1, d2] }
  | _ => none }
def fnExactRunCodeRow : OpenClaim := { program := "ytljokgoghphgdaa", sum := "b2bcb43a67b453b5fac7964cec24f1c965efe96f2ae9b559999243bd9e1ac45a", func := "loop.example/constanttime/laws.FnExactRunCode", spec := "fnExactRunCode", unfollowed := true, recurses := true, apart := false }
def FnExactRunCodeSaid : Prop := fnExactRunCodeRow.holds Try.pinned (OpenSpec.ofChange fnExactRunCodeSpec)

/-- ITS FALSE NEIGHBOUR: 'it returns false'. Refute it at one input. -/
def fnExactRunCodeWrong : ChangeSpec := { name := "fnExactRunCode", fn := fun _ => fun
  | [d1, d2] => { results := [.lit (.bool false)], args := [d1, d2] }
  | _ => none }
def FnExactRunCodeWrongFalsely : Prop := fnExactRunCodeRow.holds Try.pinned (OpenSpec.ofChange fnExactRunCodeWrong)

/-- 'laws.FnExactStepMachine': WHATEVER THE INPUT: true; the input reads as it did. -/
def fnExactStepMachineSpec : ChangeSpec := { name := "fnExactStepMachine", fn := fun _ => fun
  | [d1, d2] => { results := [.lit (.bool true)], args := [d1, d2] }
  | _ => none }
def fnExactStepMachineRow : OpenClaim := { program := "ytljokgoghphgdaa", sum := "b2bcb43a67b453b5fac7964cec24f1c965efe96f2ae9b559999243bd9e1ac45a", func := "loop.example/constanttime/laws.FnExactStepMachine", spec := "fnExactStepMachine", unfollowed := true, recurses := true, apart := false }
def FnExactStepMachineSaid : Prop := fnExactStepMachineRow.holds Try.pinned (OpenSpec.ofChange fnExactStepMachineSpec)

/-- ITS FALSE NEIGHBOUR: 'it returns false'. Refute it at one input. -/
def fnExactStepMachineWrong : ChangeSpec := { name := "fnExactStepMachine", fn := fun _ => fun
  | [d1, d2] => { results := [.lit (.bool false)], args := [d1, d2] }
  | _ => none }
def FnExactStepMachineWrongFalsely : Prop := fnExactStepMachineRow.holds Try.pinned (OpenSpec.ofChange fnExactStepMachineWrong)

/- THE SECOND FORM. 'bulk': how many values and letters a reading holds, each counted each time it is reached (what is shared counts as often as it is met; a slice's spare places count too). A statement '..UptoSaid' is the law's where the arguments, and the package variables that the reading takes, are together of bulk at most 1048576: NARROWER than '..Said'. Prove '..Said' where nothing that the law and all that it calls make is longer than what came in: it says more and counts as full. Else prove '..UptoSaid'. A law counts once. -/
mutual
def uptoBulk {H : Type} : DataW H → Nat
  | .lit (.string bytes) => bytes.length + 1
  | .lit _ => 1
  | .nil => 1
  | .ptr d => uptoBulk d + 1
  | .slice elems spare => uptoBulkAll elems + uptoBulkAll spare + 1
  | .agg parts => uptoBulkAll parts + 1
  | .iface _ d => uptoBulk d + 1
  | .map entries => uptoBulkEntries entries + 1
  | .held _ => 1
def uptoBulkAll {H : Type} : List (DataW H) → Nat
  | [] => 0
  | d :: r => uptoBulk d + uptoBulkAll r
def uptoBulkEntries {H : Type} : List (Lit × DataW H) → Nat
  | [] => 0
  | x :: r => uptoBulkEntry x + uptoBulkEntries r
def uptoBulkEntry {H : Type} : Lit × DataW H → Nat
  | (.string bytes, d) => bytes.length + uptoBulk d + 1
  | (_, d) => uptoBulk d + 1
 end
def uptoSmall : (H : Type) → List (DataW H) → Bool := fun _ ds => decide (uptoBulkAll ds ≤ 1048576)
def OpenSpec.upto (s : _root_.Go.ChangeSpec) : _root_.Go.OpenSpec := { _root_.Go.OpenSpec.ofChange s with cond := some uptoSmall }

/-- 'laws.FnStepMachine', WHERE WHAT IT READS IS OF BULK AT MOST 1048576: true; the input reads as it did. -/
def fnStepMachineUptoRow : OpenClaim := { program := "ytljokgoghphgdaa", sum := "b2bcb43a67b453b5fac7964cec24f1c965efe96f2ae9b559999243bd9e1ac45a", func := "loop.example/constanttime/laws.FnStepMachine", spec := "fnStepMachine", unfollowed := true, recurses := true, apart := false, narrowed := true }
def FnStepMachineUptoSaid : Prop := fnStepMachineUptoRow.holds Try.pinned (OpenSpec.upto fnStepMachineSpec)

/-- 'laws.FnRunDeterministic', WHERE WHAT IT READS IS OF BULK AT MOST 1048576: true; the input reads as it did. -/
def fnRunDeterministicUptoRow : OpenClaim := { program := "ytljokgoghphgdaa", sum := "b2bcb43a67b453b5fac7964cec24f1c965efe96f2ae9b559999243bd9e1ac45a", func := "loop.example/constanttime/laws.FnRunDeterministic", spec := "fnRunDeterministic", unfollowed := true, recurses := true, apart := false, narrowed := true }
def FnRunDeterministicUptoSaid : Prop := fnRunDeterministicUptoRow.holds Try.pinned (OpenSpec.upto fnRunDeterministicSpec)

/-- 'laws.FnRunCode', WHERE WHAT IT READS IS OF BULK AT MOST 1048576: true; the input reads as it did. -/
def fnRunCodeUptoRow : OpenClaim := { program := "ytljokgoghphgdaa", sum := "b2bcb43a67b453b5fac7964cec24f1c965efe96f2ae9b559999243bd9e1ac45a", func := "loop.example/constanttime/laws.FnRunCode", spec := "fnRunCode", unfollowed := true, recurses := true, apart := false, narrowed := true }
def FnRunCodeUptoSaid : Prop := fnRunCodeUptoRow.holds Try.pinned (OpenSpec.upto fnRunCodeSpec)

/-- 'laws.FnStartMachine', WHERE WHAT IT READS IS OF BULK AT MOST 1048576: true; the input reads as it did. -/
def fnStartMachineUptoRow : OpenClaim := { program := "ytljokgoghphgdaa", sum := "b2bcb43a67b453b5fac7964cec24f1c965efe96f2ae9b559999243bd9e1ac45a", func := "loop.example/constanttime/laws.FnStartMachine", spec := "fnStartMachine", unfollowed := true, recurses := true, apart := false, narrowed := true }
def FnStartMachineUptoSaid : Prop := fnStartMachineUptoRow.holds Try.pinned (OpenSpec.upto fnStartMachineSpec)

/-- 'laws.FnMachineSame', WHERE WHAT IT READS IS OF BULK AT MOST 1048576: true; the input reads as it did. -/
def fnMachineSameUptoRow : OpenClaim := { program := "ytljokgoghphgdaa", sum := "b2bcb43a67b453b5fac7964cec24f1c965efe96f2ae9b559999243bd9e1ac45a", func := "loop.example/constanttime/laws.FnMachineSame", spec := "fnMachineSame", unfollowed := true, recurses := true, apart := false, narrowed := true }
def FnMachineSameUptoSaid : Prop := fnMachineSameUptoRow.holds Try.pinned (OpenSpec.upto fnMachineSameSpec)

/-- 'laws.FnStepHalt', WHERE WHAT IT READS IS OF BULK AT MOST 1048576: true; the input reads as it did. -/
def fnStepHaltUptoRow : OpenClaim := { program := "ytljokgoghphgdaa", sum := "b2bcb43a67b453b5fac7964cec24f1c965efe96f2ae9b559999243bd9e1ac45a", func := "loop.example/constanttime/laws.FnStepHalt", spec := "fnStepHalt", unfollowed := true, recurses := true, apart := false, narrowed := true }
def FnStepHaltUptoSaid : Prop := fnStepHaltUptoRow.holds Try.pinned (OpenSpec.upto fnStepHaltSpec)

/-- 'laws.FnStepMemory', WHERE WHAT IT READS IS OF BULK AT MOST 1048576: true; the input reads as it did. -/
def fnStepMemoryUptoRow : OpenClaim := { program := "ytljokgoghphgdaa", sum := "b2bcb43a67b453b5fac7964cec24f1c965efe96f2ae9b559999243bd9e1ac45a", func := "loop.example/constanttime/laws.FnStepMemory", spec := "fnStepMemory", unfollowed := true, recurses := true, apart := false, narrowed := true }
def FnStepMemoryUptoSaid : Prop := fnStepMemoryUptoRow.holds Try.pinned (OpenSpec.upto fnStepMemorySpec)

/-- 'laws.FnStepNext', WHERE WHAT IT READS IS OF BULK AT MOST 1048576: true; the input reads as it did. -/
def fnStepNextUptoRow : OpenClaim := { program := "ytljokgoghphgdaa", sum := "b2bcb43a67b453b5fac7964cec24f1c965efe96f2ae9b559999243bd9e1ac45a", func := "loop.example/constanttime/laws.FnStepNext", spec := "fnStepNext", unfollowed := true, recurses := true, apart := false, narrowed := true }
def FnStepNextUptoSaid : Prop := fnStepNextUptoRow.holds Try.pinned (OpenSpec.upto fnStepNextSpec)

/-- 'laws.FnExactStartMachine', WHERE WHAT IT READS IS OF BULK AT MOST 1048576: true; the input reads as it did. -/
def fnExactStartMachineUptoRow : OpenClaim := { program := "ytljokgoghphgdaa", sum := "b2bcb43a67b453b5fac7964cec24f1c965efe96f2ae9b559999243bd9e1ac45a", func := "loop.example/constanttime/laws.FnExactStartMachine", spec := "fnExactStartMachine", unfollowed := true, recurses := true, apart := false, narrowed := true }
def FnExactStartMachineUptoSaid : Prop := fnExactStartMachineUptoRow.holds Try.pinned (OpenSpec.upto fnExactStartMachineSpec)

/-- 'laws.FnExactRunCode', WHERE WHAT IT READS IS OF BULK AT MOST 1048576: true; the input reads as it did. -/
def fnExactRunCodeUptoRow : OpenClaim := { program := "ytljokgoghphgdaa", sum := "b2bcb43a67b453b5fac7964cec24f1c965efe96f2ae9b559999243bd9e1ac45a", func := "loop.example/constanttime/laws.FnExactRunCode", spec := "fnExactRunCode", unfollowed := true, recurses := true, apart := false, narrowed := true }
def FnExactRunCodeUptoSaid : Prop := fnExactRunCodeUptoRow.holds Try.pinned (OpenSpec.upto fnExactRunCodeSpec)

/-- 'laws.FnExactStepMachine', WHERE WHAT IT READS IS OF BULK AT MOST 1048576: true; the input reads as it did. -/
def fnExactStepMachineUptoRow : OpenClaim := { program := "ytljokgoghphgdaa", sum := "b2bcb43a67b453b5fac7964cec24f1c965efe96f2ae9b559999243bd9e1ac45a", func := "loop.example/constanttime/laws.FnExactStepMachine", spec := "fnExactStepMachine", unfollowed := true, recurses := true, apart := false, narrowed := true }
def FnExactStepMachineUptoSaid : Prop := fnExactStepMachineUptoRow.holds Try.pinned (OpenSpec.upto fnExactStepMachineSpec)

end Rows
end Go.Proofs.Ytljokgoghphgdaa
