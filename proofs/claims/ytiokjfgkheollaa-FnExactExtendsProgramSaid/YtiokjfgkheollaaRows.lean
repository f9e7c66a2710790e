/-
  NARROWER THAN 'FOR EVERY INPUT', by the rows' own cells (each row's printed sentence says how): FnExactExprSame: loops · FnExactProgramSame: loops · FnExactExprValid: loops · FnExactExprLabel: loops · FnExactProgramValid: loops · FnExactMemoryValid: loops · FnExactExtendsProgram: loops.
  DERIVED. THE GIVEN ROWS OF THIS SEAT. 12 by the template 'for every input the law returns true; each argument reads behind the call as it read before'; 0 by the template 'total and deterministic' (their statements: YtiokjfgkheollaaTotals.lean).
  GIVEN WITH THE SEED: the statements are not yours to turn. If you find one false, say at which input.
  Laid BY PROGRAM, IN A SANDBOX (cutbox-rows.mjs): the forced cells as the released guide's own fill.sh prints them over the translation 51c5c5e5d3e34ca6… (all of the seat's roots in one cut). By AI agents, Wed Nov 11 2026. No macro, syntax, notation, axiom, sorry.
-/
import Derived.Test.YtiokjfgkheollaaChecked
import GoSem.Claim
import GoSem.ClaimJoined
import GoSem.ClaimMapViews
import Derived.JoinedTies
import Derived.KernelRfl
namespace Go.Proofs.Ytiokjfgkheollaa
/- THE CELL 'sum', in the pinned program and in every row, IS THE sha256 OF THE DUMP (.gsa) THAT YtiokjfgkheollaaProg.lean LOADS. Nothing in Lean hashes anything: it is a label: what it is worth is what the hold of that sum in a sandbox is worth. -/
noncomputable def Try.pinned : Pinned := { name := "ytiokjfgkheollaa", sum := "51c5c5e5d3e34ca69bd4198c9db3cdc071eff7d37627bed11f6c4c042eb5d7e1", checked := Try.checked }
namespace Rows
def none {H : Type} : Left H := { results := [], args := [] }

/-- 'laws.FnExactExprSame': WHATEVER THE INPUT: true; the input reads as it did. -/
def fnExactExprSameSpec : ChangeSpec := { name := "fnExactExprSame", fn := fun _ => fun
  | [d1, d2] => { results := [.lit (.bool true)], args := [d1, d2] }
  | _ => none }
def fnExactExprSameRow : OpenClaim := { program := "ytiokjfgkheollaa", sum := "51c5c5e5d3e34ca69bd4198c9db3cdc071eff7d37627bed11f6c4c042eb5d7e1", func := "loop.example/constanttime/laws.FnExactExprSame", spec := "fnExactExprSame", unfollowed := true, recurses := true, loops := true, apart := false }
def FnExactExprSameSaid : Prop := fnExactExprSameRow.holds Try.pinned (OpenSpec.ofChange fnExactExprSameSpec)

/-- ITS FALSE NEIGHBOUR: 'it returns false'. Refute it at one input. -/
def fnExactExprSameWrong : ChangeSpec := { name := "fnExactExprSame", fn := fun _ => fun
  | [d1, d2] => { results := [.lit (.bool false)], args := [d1, d2] }
  | _ => none }
def FnExactExprSameWrongFalsely : Prop := fnExactExprSameRow.holds Try.pinned (OpenSpec.ofChange fnExactExprSameWrong)

/-- 'laws.FnExactMemorySame': WHATEVER THE INPUT: true; the input reads as it did. -/
def fnExactMemorySameSpec : ChangeSpec := { name := "fnExactMemorySame", fn := fun _ => fun
  | [d1, d2] => { results := [.lit (.bool true)], args := [d1, d2] }
  | _ => none }
def fnExactMemorySameRow : OpenClaim := { program := "ytiokjfgkheollaa", sum := "51c5c5e5d3e34ca69bd4198c9db3cdc071eff7d37627bed11f6c4c042eb5d7e1", func := "loop.example/constanttime/laws.FnExactMemorySame", spec := "fnExactMemorySame", unfollowed := true, recurses := true, apart := false }
def FnExactMemorySameSaid : Prop := fnExactMemorySameRow.holds Try.pinned (OpenSpec.ofChange fnExactMemorySameSpec)

/-- ITS FALSE NEIGHBOUR: 'it returns false'. Refute it at one input. -/
def fnExactMemorySameWrong : ChangeSpec := { name := "fnExactMemorySame", fn := fun _ => fun
  | [d1, d2] => { results := [.lit (.bool false)], args := [d1, d2] }
  | _ => none }
def FnExactMemorySameWrongFalsely : Prop := fnExactMemorySameRow.holds Try.pinned (OpenSpec.ofChange fnExactMemorySameWrong)

/-- 'laws.FnExactCodeSame': WHATEVER THE INPUT: true; the input reads as it did. -/
def fnExactCodeSameSpec : ChangeSpec := { name := "fnExactCodeSame", fn := fun _ => fun
  | [d1, d2] => { results := [.lit (.bool true)], args := [d1, d2] }
  | _ => none }
def fnExactCodeSameRow : OpenClaim := { program := "ytiokjfgkheollaa", sum := "51c5c5e5d3e34ca69bd4198c9db3cdc071eff7d37627bed11f6c4c042eb5d7e1", func := "loop.example/constanttime/laws.FnExactCodeSame", spec := "fnExactCodeSame", apart := false }
def FnExactCodeSameSaid : Prop := fnExactCodeSameRow.holds Try.pinned (OpenSpec.ofChange fnExactCodeSameSpec)

/-- ITS FALSE NEIGHBOUR: 'it returns false'. Refute it at one input. -/
def fnExactCodeSameWrong : ChangeSpec := { name := "fnExactCodeSame", fn := fun _ => fun
  | [d1, d2] => { results := [.lit (.bool false)], args := [d1, d2] }
  | _ => none }
def FnExactCodeSameWrongFalsely : Prop := fnExactCodeSameRow.holds Try.pinned (OpenSpec.ofChange fnExactCodeSameWrong)

/-- 'laws.FnExactMachineSame': WHATEVER THE INPUT: true; the input reads as it did. -/
def fnExactMachineSameSpec : ChangeSpec := { name := "fnExactMachineSame", fn := fun _ => fun
  | [d1, d2] => { results := [.lit (.bool true)], args := [d1, d2] }
  | _ => none }
def fnExactMachineSameRow : OpenClaim := { program := "ytiokjfgkheollaa", sum := "51c5c5e5d3e34ca69bd4198c9db3cdc071eff7d37627bed11f6c4c042eb5d7e1", func := "loop.example/constanttime/laws.FnExactMachineSame", spec := "fnExactMachineSame", unfollowed := true, recurses := true, apart := false }
def FnExactMachineSameSaid : Prop := fnExactMachineSameRow.holds Try.pinned (OpenSpec.ofChange fnExactMachineSameSpec)

/-- ITS FALSE NEIGHBOUR: 'it returns false'. Refute it at one input. -/
def fnExactMachineSameWrong : ChangeSpec := { name := "fnExactMachineSame", fn := fun _ => fun
  | [d1, d2] => { results := [.lit (.bool false)], args := [d1, d2] }
  | _ => none }
def FnExactMachineSameWrongFalsely : Prop := fnExactMachineSameRow.holds Try.pinned (OpenSpec.ofChange fnExactMachineSameWrong)

/-- 'laws.FnExactCodeValid': WHATEVER THE INPUT: true; the input reads as it did. -/
def fnExactCodeValidSpec : ChangeSpec := { name := "fnExactCodeValid", fn := fun _ => fun
  | [d] => { results := [.lit (.bool true)], args := [d] }
  | _ => none }
def fnExactCodeValidRow : OpenClaim := { program := "ytiokjfgkheollaa", sum := "51c5c5e5d3e34ca69bd4198c9db3cdc071eff7d37627bed11f6c4c042eb5d7e1", func := "loop.example/constanttime/laws.FnExactCodeValid", spec := "fnExactCodeValid", unfollowed := true, recurses := true, apart := false }
def FnExactCodeValidSaid : Prop := fnExactCodeValidRow.holds Try.pinned (OpenSpec.ofChange fnExactCodeValidSpec)

/-- ITS FALSE NEIGHBOUR: 'it returns false'. Refute it at one input. -/
def fnExactCodeValidWrong : ChangeSpec := { name := "fnExactCodeValid", fn := fun _ => fun
  | [d] => { results := [.lit (.bool false)], args := [d] }
  | _ => none }
def FnExactCodeValidWrongFalsely : Prop := fnExactCodeValidRow.holds Try.pinned (OpenSpec.ofChange fnExactCodeValidWrong)

/-- 'laws.FnExactProgramSame': WHATEVER THE INPUT: true; the input reads as it did. -/
def fnExactProgramSameSpec : ChangeSpec := { name := "fnExactProgramSame", fn := fun _ => fun
  | [d1, d2] => { results := [.lit (.bool true)], args := [d1, d2] }
  | _ => none }
def fnExactProgramSameRow : OpenClaim := { program := "ytiokjfgkheollaa", sum := "51c5c5e5d3e34ca69bd4198c9db3cdc071eff7d37627bed11f6c4c042eb5d7e1", func := "loop.example/constanttime/laws.FnExactProgramSame", spec := "fnExactProgramSame", unfollowed := true, recurses := true, loops := true, apart := false }
def FnExactProgramSameSaid : Prop := fnExactProgramSameRow.holds Try.pinned (OpenSpec.ofChange fnExactProgramSameSpec)

/-- ITS FALSE NEIGHBOUR: 'it returns false'. Refute it at one input. -/
def fnExactProgramSameWrong : ChangeSpec := { name := "fnExactProgramSame", fn := fun _ => fun
  | [d1, d2] => { results := [.lit (.bool false)], args := [d1, d2] }
  | _ => none }
def FnExactProgramSameWrongFalsely : Prop := fnExactProgramSameRow.holds Try.pinned (OpenSpec.ofChange fnExactProgramSameWrong)

/-- 'laws.FnExactExprValid': WHATEVER THE INPUT: true; the input reads as it did. -/
def fnExactExprValidSpec : ChangeSpec := { name := "fnExactExprValid", fn := fun _ => fun
  | [d1, d2] => { results := [.lit (.bool true)], args := [d1, d2] }
  | _ => none }
def fnExactExprValidRow : OpenClaim := { program := "ytiokjfgkheollaa", sum := "51c5c5e5d3e34ca69bd4198c9db3cdc071eff7d37627bed11f6c4c042eb5d7e1", func := "loop.example/constanttime/laws.FnExactExprValid", spec := "fnExactExprValid", unfollowed := true, recurses := true, loops := true, apart := false }
def FnExactExprValidSaid : Prop := fnExactExprValidRow.holds Try.pinned (OpenSpec.ofChange fnExactExprValidSpec)

/-- ITS FALSE NEIGHBOUR: 'it returns false'. Refute it at one input. -/
def fnExactExprValidWrong : ChangeSpec := { name := "fnExactExprValid", fn := fun _ => fun
  | [d1, d2] => { results := [.lit (.bool false)], args := [d1, d2] }
  | _ => none }
def FnExactExprValidWrongFalsely : Prop := fnExactExprValidRow.holds Try.pinned (OpenSpec.ofChange fnExactExprValidWrong)

/-- 'laws.FnExactMachineValid': WHATEVER THE INPUT: true; the input reads as it did. -/
def fnExactMachineValidSpec : ChangeSpec := { name := "fnExactMachineValid", fn := fun _ => fun
  | [d1, d2] => { results := [.lit (.bool true)], args := [d1, d2] }
  | _ => none }
def fnExactMachineValidRow : OpenClaim := { program := "ytiokjfgkheollaa", sum := "51c5c5e5d3e34ca69bd4198c9db3cdc071eff7d37627bed11f6c4c042eb5d7e1", func := "loop.example/constanttime/laws.FnExactMachineValid", spec := "fnExactMachineValid", unfollowed := true, recurses := true, apart := false }
def FnExactMachineValidSaid : Prop := fnExactMachineValidRow.holds Try.pinned (OpenSpec.ofChange fnExactMachineValidSpec)

/-- ITS FALSE NEIGHBOUR: 'it returns false'. Refute it at one input. -/
def fnExactMachineValidWrong : ChangeSpec := { name := "fnExactMachineValid", fn := fun _ => fun
  | [d1, d2] => { results := [.lit (.bool false)], args := [d1, d2] }
  | _ => none }
def FnExactMachineValidWrongFalsely : Prop := fnExactMachineValidRow.holds Try.pinned (OpenSpec.ofChange fnExactMachineValidWrong)

/-- 'laws.FnExactExprLabel': WHATEVER THE INPUT: true; the input reads as it did. -/
def fnExactExprLabelSpec : ChangeSpec := { name := "fnExactExprLabel", fn := fun _ => fun
  | [d1, d2] => { results := [.lit (.bool true)], args := [d1, d2] }
  | _ => none }
def fnExactExprLabelRow : OpenClaim := { program := "ytiokjfgkheollaa", sum := "51c5c5e5d3e34ca69bd4198c9db3cdc071eff7d37627bed11f6c4c042eb5d7e1", func := "loop.example/constanttime/laws.FnExactExprLabel", spec := "fnExactExprLabel", unfollowed := true, recurses := true, loops := true, apart := false }
def FnExactExprLabelSaid : Prop := fnExactExprLabelRow.holds Try.pinned (OpenSpec.ofChange fnExactExprLabelSpec)

/-- ITS FALSE NEIGHBOUR: 'it returns false'. Refute it at one input. -/
def fnExactExprLabelWrong : ChangeSpec := { name := "fnExactExprLabel", fn := fun _ => fun
  | [d1, d2] => { results := [.lit (.bool false)], args := [d1, d2] }
  | _ => none }
def FnExactExprLabelWrongFalsely : Prop := fnExactExprLabelRow.holds Try.pinned (OpenSpec.ofChange fnExactExprLabelWrong)

/-- 'laws.FnExactProgramValid': WHATEVER THE INPUT: true; the input reads as it did. -/
def fnExactProgramValidSpec : ChangeSpec := { name := "fnExactProgramValid", fn := fun _ => fun
  | [d] => { results := [.lit (.bool true)], args := [d] }
  | _ => none }
def fnExactProgramValidRow : OpenClaim := { program := "ytiokjfgkheollaa", sum := "51c5c5e5d3e34ca69bd4198c9db3cdc071eff7d37627bed11f6c4c042eb5d7e1", func := "loop.example/constanttime/laws.FnExactProgramValid", spec := "fnExactProgramValid", unfollowed := true, recurses := true, loops := true, apart := false }
def FnExactProgramValidSaid : Prop := fnExactProgramValidRow.holds Try.pinned (OpenSpec.ofChange fnExactProgramValidSpec)

/-- ITS FALSE NEIGHBOUR: 'it returns false'. Refute it at one input. -/
def fnExactProgramValidWrong : ChangeSpec := { name := "fnExactProgramValid", fn := fun _ => fun
  | [d] => { results := [.lit (.bool false)], args := [d] }
  | _ => none }
def FnExactProgramValidWrongFalsely : Prop := fnExactProgramValidRow.holds Try.pinned (OpenSpec.ofChange fnExactProgramValidWrong)

/-- 'laws.FnExactMemoryValid': WHATEVER THE INPUT: true; the input reads as it did. -/
def fnExactMemoryValidSpec : ChangeSpec := { name := "fnExactMemoryValid", fn := fun _ => fun
  | [d1, d2] => { results := [.lit (.bool true)], args := [d1, d2] }
  | _ => none }
def fnExactMemoryValidRow : OpenClaim := { program := "ytiokjfgkheollaa", sum := "51c5c5e5d3e34ca69bd4198c9db3cdc071eff7d37627bed11f6c4c042eb5d7e1", func := "loop.example/constanttime/laws.FnExactMemoryValid", spec := "fnExactMemoryValid", unfollowed := true, recurses := true, loops := true, apart := false }
def FnExactMemoryValidSaid : Prop := fnExactMemoryValidRow.holds Try.pinned (OpenSpec.ofChange fnExactMemoryValidSpec)

/-- ITS FALSE NEIGHBOUR: 'it returns false'. Refute it at one input. -/
def fnExactMemoryValidWrong : ChangeSpec := { name := "fnExactMemoryValid", fn := fun _ => fun
  | [d1, d2] => { results := [.lit (.bool false)], args := [d1, d2] }
  | _ => none }
def FnExactMemoryValidWrongFalsely : Prop := fnExactMemoryValidRow.holds Try.pinned (OpenSpec.ofChange fnExactMemoryValidWrong)

/-- 'laws.FnExactExtendsProgram': WHATEVER THE INPUT: true; the input reads as it did. -/
def fnExactExtendsProgramSpec : ChangeSpec := { name := "fnExactExtendsProgram", fn := fun _ => fun
  | [d1, d2] => { results := [.lit (.bool true)], args := [d1, d2] }
  | _ => none }
def fnExactExtendsProgramRow : OpenClaim := { program := "ytiokjfgkheollaa", sum := "51c5c5e5d3e34ca69bd4198c9db3cdc071eff7d37627bed11f6c4c042eb5d7e1", func := "loop.example/constanttime/laws.FnExactExtendsProgram", spec := "fnExactExtendsProgram", unfollowed := true, recurses := true, loops := true, apart := false }
def FnExactExtendsProgramSaid : Prop := fnExactExtendsProgramRow.holds Try.pinned (OpenSpec.ofChange fnExactExtendsProgramSpec)

/-- ITS FALSE NEIGHBOUR: 'it returns false'. Refute it at one input. -/
def fnExactExtendsProgramWrong : ChangeSpec := { name := "fnExactExtendsProgram", fn := fun _ => fun
  | [d1, d2] => { results := [.lit (.bool false)], args := [d1, d2] }
  | _ => none }
def FnExactExtendsProgramWrongFalsely : Prop := fnExactExtendsProgramRow.holds Try.pinned (OpenSpec.ofChange fnExactExtendsProgramWrong)

/- THE SECOND FORM. 'bulk': how many values and letters a reading holds, each counted each time it is reached (what is shared counts as often as it is met; a slice's spare places count too). A statement '..UptoSaid' is the law's where the arguments, and the package variables that the reading takes, are together of bulk at most 1048576: NARROWER than '..Said'. Prove '..Said' where nothing that the law and all that it calls make is longer than what came in: it says more and counts as full. Else prove '..UptoSaid'. A law counts once. -/
mutual
def uptoBulk {H : Type} : DataW H → Nat
  | .lit (.string bytes) => bytes.length + 1
  | .lit _ => 1
  | .nil => 1
  | .ptr d => uptoBulk d + 1
  | .slice elems spare => uptoBulkAll elems + uptoBulkAll spare + 1
  | .agg parts => uptoBulkAll parts + 1
  | .iface _ d => uptoBulk d + 1
  | .map entries => uptoBulkEntries entries + 1
  | .held _ => 1
def uptoBulkAll {H : Type} : List (DataW H) → Nat
  | [] => 0
  | d :: r => uptoBulk d + uptoBulkAll r
def uptoBulkEntries {H : Type} : List (Lit × DataW H) → Nat
  | [] => 0
  | x :: r => uptoBulkEntry x + uptoBulkEntries r
def uptoBulkEntry {H : Type} : Lit × DataW H → Nat
  | (.string bytes, d) => bytes.length + uptoBulk d + 1
  | (_, d) => uptoBulk d + 1
 end
def uptoSmall : (H : Type) → List (DataW H) → Bool := fun _ ds => decide (uptoBulkAll ds ≤ 1048576)
def OpenSpec.upto (s : _root_.Go.ChangeSpec) : _root_.Go.OpenSpec := { _root_.Go.OpenSpec.ofChange s with cond := some uptoSmall }

/-- 'laws.FnExactExprSame', WHERE WHAT IT READS IS OF BULK AT MOST 1048576: true; the input reads as it did. -/
def fnExactExprSameUptoRow : OpenClaim := { program := "ytiokjfgkheollaa", sum := "51c5c5e5d3e34ca69bd4198c9db3cdc071eff7d37627bed11f6c4c042eb5d7e1", func := "loop.example/constanttime/laws.FnExactExprSame", spec := "fnExactExprSame", unfollowed := true, recurses := true, loops := true, apart := false, narrowed := true }
def FnExactExprSameUptoSaid : Prop := fnExactExprSameUptoRow.holds Try.pinned (OpenSpec.upto fnExactExprSameSpec)

/-- 'laws.FnExactMemorySame', WHERE WHAT IT READS IS OF BULK AT MOST 1048576: true; the input reads as it did. -/
def fnExactMemorySameUptoRow : OpenClaim := { program := "ytiokjfgkheollaa", sum := "51c5c5e5d3e34ca69bd4198c9db3cdc071eff7d37627bed11f6c4c042eb5d7e1", func := "loop.example/constanttime/laws.FnExactMemorySame", spec := "fnExactMemorySame", unfollowed := true, recurses := true, apart := false, narrowed := true }
def FnExactMemorySameUptoSaid : Prop := fnExactMemorySameUptoRow.holds Try.pinned (OpenSpec.upto fnExactMemorySameSpec)

/-- 'laws.FnExactCodeSame', WHERE WHAT IT READS IS OF BULK AT MOST 1048576: true; the input reads as it did. -/
def fnExactCodeSameUptoRow : OpenClaim := { program := "ytiokjfgkheollaa", sum := "51c5c5e5d3e34ca69bd4198c9db3cdc071eff7d37627bed11f6c4c042eb5d7e1", func := "loop.example/constanttime/laws.FnExactCodeSame", spec := "fnExactCodeSame", apart := false, narrowed := true }
def FnExactCodeSameUptoSaid : Prop := fnExactCodeSameUptoRow.holds Try.pinned (OpenSpec.upto fnExactCodeSameSpec)

/-- 'laws.FnExactMachineSame', WHERE WHAT IT READS IS OF BULK AT MOST 1048576: true; the input reads as it did. -/
def fnExactMachineSameUptoRow : OpenClaim := { program := "ytiokjfgkheollaa", sum := "51c5c5e5d3e34ca69bd4198c9db3cdc071eff7d37627bed11f6c4c042eb5d7e1", func := "loop.example/constanttime/laws.FnExactMachineSame", spec := "fnExactMachineSame", unfollowed := true, recurses := true, apart := false, narrowed := true }
def FnExactMachineSameUptoSaid : Prop := fnExactMachineSameUptoRow.holds Try.pinned (OpenSpec.upto fnExactMachineSameSpec)

/-- 'laws.FnExactCodeValid', WHERE WHAT IT READS IS OF BULK AT MOST 1048576: true; the input reads as it did. -/
def fnExactCodeValidUptoRow : OpenClaim := { program := "ytiokjfgkheollaa", sum := "51c5c5e5d3e34ca69bd4198c9db3cdc071eff7d37627bed11f6c4c042eb5d7e1", func := "loop.example/constanttime/laws.FnExactCodeValid", spec := "fnExactCodeValid", unfollowed := true, recurses := true, apart := false, narrowed := true }
def FnExactCodeValidUptoSaid : Prop := fnExactCodeValidUptoRow.holds Try.pinned (OpenSpec.upto fnExactCodeValidSpec)

/-- 'laws.FnExactProgramSame', WHERE WHAT IT READS IS OF BULK AT MOST 1048576: true; the input reads as it did. -/
def fnExactProgramSameUptoRow : OpenClaim := { program := "ytiokjfgkheollaa", sum := "51c5c5e5d3e34ca69bd4198c9db3cdc071eff7d37627bed11f6c4c042eb5d7e1", func := "loop.example/constanttime/laws.FnExactProgramSame", spec := "fnExactProgramSame", unfollowed := true, recurses := true, loops := true, apart := false, narrowed := true }
def FnExactProgramSameUptoSaid : Prop := fnExactProgramSameUptoRow.holds Try.pinned (OpenSpec.upto fnExactProgramSameSpec)

/-- 'laws.FnExactExprValid', WHERE WHAT IT READS IS OF BULK AT MOST 1048576: true; the input reads as it did. -/
def fnExactExprValidUptoRow : OpenClaim := { program := "ytiokjfgkheollaa", sum := "51c5c5e5d3e34ca69bd4198c9db3cdc071eff7d37627bed11f6c4c042eb5d7e1", func := "loop.example/constanttime/laws.FnExactExprValid", spec := "fnExactExprValid", unfollowed := true, recurses := true, loops := true, apart := false, narrowed := true }
def FnExactExprValidUptoSaid : Prop := fnExactExprValidUptoRow.holds Try.pinned (OpenSpec.upto fnExactExprValidSpec)

/-- 'laws.FnExactMachineValid', WHERE WHAT IT READS IS OF BULK AT MOST 1048576: true; the input reads as it did. -/
def fnExactMachineValidUptoRow : OpenClaim := { program := "ytiokjfgkheollaa", sum := "51c5c5e5d3e34ca69bd4198c9db3cdc071eff7d37627bed11f6c4c042eb5d7e1", func := "loop.example/constanttime/laws.FnExactMachineValid", spec := "fnExactMachineValid", unfollowed := true, recurses := true, apart := false, narrowed := true }
def FnExactMachineValidUptoSaid : Prop := fnExactMachineValidUptoRow.holds Try.pinned (OpenSpec.upto fnExactMachineValidSpec)

/-- 'laws.FnExactExprLabel', WHERE WHAT IT READS IS OF BULK AT MOST 1048576: true; the input reads as it did. -/
def fnExactExprLabelUptoRow : OpenClaim := { program := "ytiokjfgkheollaa", sum := "51c5c5e5d3e34ca69bd4198c9db3cdc071eff7d37627bed11f6c4c042eb5d7e1", func := "loop.example/constanttime/laws.FnExactExprLabel", spec := "fnExactExprLabel", unfollowed := true, recurses := true, loops := true, apart := false, narrowed := true }
def FnExactExprLabelUptoSaid : Prop := fnExactExprLabelUptoRow.holds Try.pinned (OpenSpec.upto fnExactExprLabelSpec)

/-- 'laws.FnExactProgramValid', WHERE WHAT IT READS IS OF BULK AT MOST 1048576: true; the input reads as it did. -/
def fnExactProgramValidUptoRow : OpenClaim := { program := "ytiokjfgkheollaa", sum := "51c5c5e5d3e34ca69bd4198c9db3cdc071eff7d37627bed11f6c4c042eb5d7e1", func := "loop.example/constanttime/laws.FnExactProgramValid", spec := "fnExactProgramValid", unfollowed := true, recurses := true, loops := true, apart := false, narrowed := true }
def FnExactProgramValidUptoSaid : Prop := fnExactProgramValidUptoRow.holds Try.pinned (OpenSpec.upto fnExactProgramValidSpec)

/-- 'laws.FnExactMemoryValid', WHERE WHAT IT READS IS OF BULK AT MOST 1048576: true; the input reads as it did. -/
def fnExactMemoryValidUptoRow : OpenClaim := { program := "ytiokjfgkheollaa", sum := "51c5c5e5d3e34ca69bd4198c9db3cdc071eff7d37627bed11f6c4c042eb5d7e1", func := "loop.example/constanttime/laws.FnExactMemoryValid", spec := "fnExactMemoryValid", unfollowed := true, recurses := true, loops := true, apart := false, narrowed := true }
def FnExactMemoryValidUptoSaid : Prop := fnExactMemoryValidUptoRow.holds Try.pinned (OpenSpec.upto fnExactMemoryValidSpec)

/-- 'laws.FnExactExtendsProgram', WHERE WHAT IT READS IS OF BULK AT MOST 1048576: true; the input reads as it did. -/
def fnExactExtendsProgramUptoRow : OpenClaim := { program := "ytiokjfgkheollaa", sum := "51c5c5e5d3e34ca69bd4198c9db3cdc071eff7d37627bed11f6c4c042eb5d7e1", func := "loop.example/constanttime/laws.FnExactExtendsProgram", spec := "fnExactExtendsProgram", unfollowed := true, recurses := true, loops := true, apart := false, narrowed := true }
def FnExactExtendsProgramUptoSaid : Prop := fnExactExtendsProgramUptoRow.holds Try.pinned (OpenSpec.upto fnExactExtendsProgramSpec)

end Rows
end Go.Proofs.Ytiokjfgkheollaa
