/-
  NARROWER THAN 'FOR EVERY INPUT', by the rows' own cells (each row's printed sentence says how): FnExactCompileExpr: loops · FnExactProgramWrites: loops.
  DERIVED. THE GIVEN ROWS OF THIS SEAT. 9 by the template 'for every input the law returns true; each argument reads behind the call as it read before'; 0 by the template 'total and deterministic' (their statements: YtckikiaockkmbaaTotals.lean).
  GIVEN WITH THE SEED: the statements are not yours to turn. If you find one false, say at which input.
  Laid BY PROGRAM, IN A SANDBOX (cutbox-rows.mjs): the forced cells as the released guide's own fill.sh prints them over the translation 224c09124f63a68c… (all of the seat's roots in one cut). By AI agents, Wed Nov 11 2026. No macro, syntax, notation, axiom, sorry.
-/
import Derived.Test.YtckikiaockkmbaaChecked
import GoSem.Claim
import GoSem.ClaimJoined
import GoSem.ClaimMapViews
import Derived.JoinedTies
import Derived.KernelRfl
namespace Go.Proofs.Ytckikiaockkmbaa
/- THE CELL 'sum', in the pinned program and in every row, IS THE sha256 OF THE DUMP (.gsa) THAT YtckikiaockkmbaaProg.lean LOADS. Nothing in Lean hashes anything: it is a label: what it is worth is what the hold of that sum in a sandbox is worth. -/
noncomputable def Try.pinned : Pinned := { name := "ytckikiaockkmbaa", sum := "224c09124f63a68c51481a062621d93350ac4f6acf4371ea466f2d06887a77b6", checked := Try.checked }
namespace Rows
def none {H : Type} : Left H := { results := [], args := [] }

/-- 'laws.FnProjectTrace': WHATEVER THE INPUT: true; the input reads as it did. -/
def fnProjectTraceSpec : ChangeSpec := { name := "fnProjectTrace", fn := fun _ => fun
  | [d1, d2] => { results := [.lit (.bool true)], args := [d1, d2] }
  | _ => none }
def fnProjectTraceRow : OpenClaim := { program := "ytckikiaockkmbaa", sum := "224c09124f63a68c51481a062621d93350ac4f6acf4371ea466f2d06887a77b6", func := "loop.example/constanttime/laws.FnProjectTrace", spec := "fnProjectTrace", recurses := true, apart := false }
def FnProjectTraceSaid : Prop := fnProjectTraceRow.holds Try.pinned (OpenSpec.ofChange fnProjectTraceSpec)

/-- ITS FALSE NEIGHBOUR: 'it returns false'. Refute it at one input. -/
def fnProjectTraceWrong : ChangeSpec := { name := "fnProjectTrace", fn := fun _ => fun
  | [d1, d2] => { results := [.lit (.bool false)], args := [d1, d2] }
  | _ => none }
def FnProjectTraceWrongFalsely : Prop := fnProjectTraceRow.holds Try.pinned (OpenSpec.ofChange fnProjectTraceWrong)

/-- 'laws.FnFirstDifference': WHATEVER THE INPUT: true; the input reads as it did. -/
def fnFirstDifferenceSpec : ChangeSpec := { name := "fnFirstDifference", fn := fun _ => fun
  | [d] => { results := [.lit (.bool true)], args := [d] }
  | _ => none }
def fnFirstDifferenceRow : OpenClaim := { program := "ytckikiaockkmbaa", sum := "224c09124f63a68c51481a062621d93350ac4f6acf4371ea466f2d06887a77b6", func := "loop.example/constanttime/laws.FnFirstDifference", spec := "fnFirstDifference", recurses := true, apart := false }
def FnFirstDifferenceSaid : Prop := fnFirstDifferenceRow.holds Try.pinned (OpenSpec.ofChange fnFirstDifferenceSpec)

/-- ITS FALSE NEIGHBOUR: 'it returns false'. Refute it at one input. -/
def fnFirstDifferenceWrong : ChangeSpec := { name := "fnFirstDifference", fn := fun _ => fun
  | [d] => { results := [.lit (.bool false)], args := [d] }
  | _ => none }
def FnFirstDifferenceWrongFalsely : Prop := fnFirstDifferenceRow.holds Try.pinned (OpenSpec.ofChange fnFirstDifferenceWrong)

/-- 'laws.FnProgramWrites': WHATEVER THE INPUT: true; the input reads as it did. -/
def fnProgramWritesSpec : ChangeSpec := { name := "fnProgramWrites", fn := fun _ => fun
  | [d1, d2] => { results := [.lit (.bool true)], args := [d1, d2] }
  | _ => none }
def fnProgramWritesRow : OpenClaim := { program := "ytckikiaockkmbaa", sum := "224c09124f63a68c51481a062621d93350ac4f6acf4371ea466f2d06887a77b6", func := "loop.example/constanttime/laws.FnProgramWrites", spec := "fnProgramWrites", unfollowed := true, recurses := true, apart := false }
def FnProgramWritesSaid : Prop := fnProgramWritesRow.holds Try.pinned (OpenSpec.ofChange fnProgramWritesSpec)

/-- ITS FALSE NEIGHBOUR: 'it returns false'. Refute it at one input. -/
def fnProgramWritesWrong : ChangeSpec := { name := "fnProgramWrites", fn := fun _ => fun
  | [d1, d2] => { results := [.lit (.bool false)], args := [d1, d2] }
  | _ => none }
def FnProgramWritesWrongFalsely : Prop := fnProgramWritesRow.holds Try.pinned (OpenSpec.ofChange fnProgramWritesWrong)

/-- 'laws.FnExactCompileExpr': WHATEVER THE INPUT: true; the input reads as it did. -/
def fnExactCompileExprSpec : ChangeSpec := { name := "fnExactCompileExpr", fn := fun _ => fun
  | [d1, d2] => { results := [.lit (.bool true)], args := [d1, d2] }
  | _ => none }
def fnExactCompileExprRow : OpenClaim := { program := "ytckikiaockkmbaa", sum := "224c09124f63a68c51481a062621d93350ac4f6acf4371ea466f2d06887a77b6", func := "loop.example/constanttime/laws.FnExactCompileExpr", spec := "fnExactCompileExpr", unfollowed := true, recurses := true, loops := true, apart := false }
def FnExactCompileExprSaid : Prop := fnExactCompileExprRow.holds Try.pinned (OpenSpec.ofChange fnExactCompileExprSpec)

/-- ITS FALSE NEIGHBOUR: 'it returns false'. Refute it at one input. -/
def fnExactCompileExprWrong : ChangeSpec := { name := "fnExactCompileExpr", fn := fun _ => fun
  | [d1, d2] => { results := [.lit (.bool false)], args := [d1, d2] }
  | _ => none }
def FnExactCompileExprWrongFalsely : Prop := fnExactCompileExprRow.holds Try.pinned (OpenSpec.ofChange fnExactCompileExprWrong)

/-- 'laws.FnCompileExpr': WHATEVER THE INPUT: true; the input reads as it did. -/
def fnCompileExprSpec : ChangeSpec := { name := "fnCompileExpr", fn := fun _ => fun
  | [d] => { results := [.lit (.bool true)], args := [d] }
  | _ => none }
def fnCompileExprRow : OpenClaim := { program := "ytckikiaockkmbaa", sum := "224c09124f63a68c51481a062621d93350ac4f6acf4371ea466f2d06887a77b6", func := "loop.example/constanttime/laws.FnCompileExpr", spec := "fnCompileExpr", unfollowed := true, recurses := true, apart := false }
def FnCompileExprSaid : Prop := fnCompileExprRow.holds Try.pinned (OpenSpec.ofChange fnCompileExprSpec)

/-- ITS FALSE NEIGHBOUR: 'it returns false'. Refute it at one input. -/
def fnCompileExprWrong : ChangeSpec := { name := "fnCompileExpr", fn := fun _ => fun
  | [d] => { results := [.lit (.bool false)], args := [d] }
  | _ => none }
def FnCompileExprWrongFalsely : Prop := fnCompileExprRow.holds Try.pinned (OpenSpec.ofChange fnCompileExprWrong)

/-- 'laws.FnPublicPart': WHATEVER THE INPUT: true; the input reads as it did. -/
def fnPublicPartSpec : ChangeSpec := { name := "fnPublicPart", fn := fun _ => fun
  | [d] => { results := [.lit (.bool true)], args := [d] }
  | _ => none }
def fnPublicPartRow : OpenClaim := { program := "ytckikiaockkmbaa", sum := "224c09124f63a68c51481a062621d93350ac4f6acf4371ea466f2d06887a77b6", func := "loop.example/constanttime/laws.FnPublicPart", spec := "fnPublicPart", unfollowed := true, recurses := true, apart := false }
def FnPublicPartSaid : Prop := fnPublicPartRow.holds Try.pinned (OpenSpec.ofChange fnPublicPartSpec)

/-- ITS FALSE NEIGHBOUR: 'it returns false'. Refute it at one input. -/
def fnPublicPartWrong : ChangeSpec := { name := "fnPublicPart", fn := fun _ => fun
  | [d] => { results := [.lit (.bool false)], args := [d] }
  | _ => none }
def FnPublicPartWrongFalsely : Prop := fnPublicPartRow.holds Try.pinned (OpenSpec.ofChange fnPublicPartWrong)

/-- 'laws.FnTrustedPart': WHATEVER THE INPUT: true; the input reads as it did. -/
def fnTrustedPartSpec : ChangeSpec := { name := "fnTrustedPart", fn := fun _ => fun
  | [d] => { results := [.lit (.bool true)], args := [d] }
  | _ => none }
def fnTrustedPartRow : OpenClaim := { program := "ytckikiaockkmbaa", sum := "224c09124f63a68c51481a062621d93350ac4f6acf4371ea466f2d06887a77b6", func := "loop.example/constanttime/laws.FnTrustedPart", spec := "fnTrustedPart", unfollowed := true, recurses := true, apart := false }
def FnTrustedPartSaid : Prop := fnTrustedPartRow.holds Try.pinned (OpenSpec.ofChange fnTrustedPartSpec)

/-- ITS FALSE NEIGHBOUR: 'it returns false'. Refute it at one input. -/
def fnTrustedPartWrong : ChangeSpec := { name := "fnTrustedPart", fn := fun _ => fun
  | [d] => { results := [.lit (.bool false)], args := [d] }
  | _ => none }
def FnTrustedPartWrongFalsely : Prop := fnTrustedPartRow.holds Try.pinned (OpenSpec.ofChange fnTrustedPartWrong)

/-- 'laws.FnExactProgramWrites': WHATEVER THE INPUT: true; the input reads as it did. -/
def fnExactProgramWritesSpec : ChangeSpec := { name := "fnExactProgramWrites", fn := fun _ => fun
  | [d] => { results := [.lit (.bool true)], args := [d] }
  | _ => none }
def fnExactProgramWritesRow : OpenClaim := { program := "ytckikiaockkmbaa", sum := "224c09124f63a68c51481a062621d93350ac4f6acf4371ea466f2d06887a77b6", func := "loop.example/constanttime/laws.FnExactProgramWrites", spec := "fnExactProgramWrites", unfollowed := true, recurses := true, loops := true, apart := false }
def FnExactProgramWritesSaid : Prop := fnExactProgramWritesRow.holds Try.pinned (OpenSpec.ofChange fnExactProgramWritesSpec)

/-- ITS FALSE NEIGHBOUR: 'it returns false'. Refute it at one input. -/
def fnExactProgramWritesWrong : ChangeSpec := { name := "fnExactProgramWrites", fn := fun _ => fun
  | [d] => { results := [.lit (.bool false)], args := [d] }
  | _ => none }
def FnExactProgramWritesWrongFalsely : Prop := fnExactProgramWritesRow.holds Try.pinned (OpenSpec.ofChange fnExactProgramWritesWrong)

/-- 'laws.FnCompileSequence': WHATEVER THE INPUT: true; the input reads as it did. -/
def fnCompileSequenceSpec : ChangeSpec := { name := "fnCompileSequence", fn := fun _ => fun
  | [d1, d2] => { results := [.lit (.bool true)], args := [d1, d2] }
  | _ => none }
def fnCompileSequenceRow : OpenClaim := { program := "ytckikiaockkmbaa", sum := "224c09124f63a68c51481a062621d93350ac4f6acf4371ea466f2d06887a77b6", func := "loop.example/constanttime/laws.FnCompileSequence", spec := "fnCompileSequence", unfollowed := true, recurses := true, apart := false }
def FnCompileSequenceSaid : Prop := fnCompileSequenceRow.holds Try.pinned (OpenSpec.ofChange fnCompileSequenceSpec)

/-- ITS FALSE NEIGHBOUR: 'it returns false'. Refute it at one input. -/
def fnCompileSequenceWrong : ChangeSpec := { name := "fnCompileSequence", fn := fun _ => fun
  | [d1, d2] => { results := [.lit (.bool false)], args := [d1, d2] }
  | _ => none }
def FnCompileSequenceWrongFalsely : Prop := fnCompileSequenceRow.holds Try.pinned (OpenSpec.ofChange fnCompileSequenceWrong)

/- THE SECOND FORM. 'bulk': how many values and letters a reading holds, each counted each time it is reached (what is shared counts as often as it is met; a slice's spare places count too). A statement '..UptoSaid' is the law's where the arguments, and the package variables that the reading takes, are together of bulk at most 1048576: NARROWER than '..Said'. Prove '..Said' where nothing that the law and all that it calls make is longer than what came in: it says more and counts as full. Else prove '..UptoSaid'. A law counts once. -/
mutual
def uptoBulk {H : Type} : DataW H → Nat
  | .lit (.string bytes) => bytes.length + 1
  | .lit _ => 1
  | .nil => 1
  | .ptr d => uptoBulk d + 1
  | .slice elems spare => uptoBulkAll elems + uptoBulkAll spare + 1
  | .agg parts => uptoBulkAll parts + 1
  | .iface _ d => uptoBulk d + 1
  | .map entries => uptoBulkEntries entries + 1
  | .held _ => 1
def uptoBulkAll {H : Type} : List (DataW H) → Nat
  | [] => 0
  | d :: r => uptoBulk d + uptoBulkAll r
def uptoBulkEntries {H : Type} : List (Lit × DataW H) → Nat
  | [] => 0
  | x :: r => uptoBulkEntry x + uptoBulkEntries r
def uptoBulkEntry {H : Type} : Lit × DataW H → Nat
  | (.string bytes, d) => bytes.length + uptoBulk d + 1
  | (_, d) => uptoBulk d + 1
 end
def uptoSmall : (H : Type) → List (DataW H) → Bool := fun _ ds => decide (uptoBulkAll ds ≤ 1048576)
def OpenSpec.upto (s : _root_.Go.ChangeSpec) : _root_.Go.OpenSpec := { _root_.Go.OpenSpec.ofChange s with cond := some uptoSmall }

/-- 'laws.FnProjectTrace', WHERE WHAT IT READS IS OF BULK AT MOST 1048576: true; the input reads as it did. -/
def fnProjectTraceUptoRow : OpenClaim := { program := "ytckikiaockkmbaa", sum := "224c09124f63a68c51481a062621d93350ac4f6acf4371ea466f2d06887a77b6", func := "loop.example/constanttime/laws.FnProjectTrace", spec := "fnProjectTrace", recurses := true, apart := false, narrowed := true }
def FnProjectTraceUptoSaid : Prop := fnProjectTraceUptoRow.holds Try.pinned (OpenSpec.upto fnProjectTraceSpec)

/-- 'laws.FnFirstDifference', WHERE WHAT IT READS IS OF BULK AT MOST 1048576: true; the input reads as it did. -/
def fnFirstDifferenceUptoRow : OpenClaim := { program := "ytckikiaockkmbaa", sum := "224c09124f63a68c51481a062621d93350ac4f6acf4371ea466f2d06887a77b6", func := "loop.example/constanttime/laws.FnFirstDifference", spec := "fnFirstDifference", recurses := true, apart := false, narrowed := true }
def FnFirstDifferenceUptoSaid : Prop := fnFirstDifferenceUptoRow.holds Try.pinned (OpenSpec.upto fnFirstDifferenceSpec)

/-- 'laws.FnProgramWrites', WHERE WHAT IT READS IS OF BULK AT MOST 1048576: true; the input reads as it did. -/
def fnProgramWritesUptoRow : OpenClaim := { program := "ytckikiaockkmbaa", sum := "224c09124f63a68c51481a062621d93350ac4f6acf4371ea466f2d06887a77b6", func := "loop.example/constanttime/laws.FnProgramWrites", spec := "fnProgramWrites", unfollowed := true, recurses := true, apart := false, narrowed := true }
def FnProgramWritesUptoSaid : Prop := fnProgramWritesUptoRow.holds Try.pinned (OpenSpec.upto fnProgramWritesSpec)

/-- 'laws.FnExactCompileExpr', WHERE WHAT IT READS IS OF BULK AT MOST 1048576: true; the input reads as it did. -/
def fnExactCompileExprUptoRow : OpenClaim := { program := "ytckikiaockkmbaa", sum := "224c09124f63a68c51481a062621d93350ac4f6acf4371ea466f2d06887a77b6", func := "loop.example/constanttime/laws.FnExactCompileExpr", spec := "fnExactCompileExpr", unfollowed := true, recurses := true, loops := true, apart := false, narrowed := true }
def FnExactCompileExprUptoSaid : Prop := fnExactCompileExprUptoRow.holds Try.pinned (OpenSpec.upto fnExactCompileExprSpec)

/-- 'laws.FnCompileExpr', WHERE WHAT IT READS IS OF BULK AT MOST 1048576: true; the input reads as it did. -/
def fnCompileExprUptoRow : OpenClaim := { program := "ytckikiaockkmbaa", sum := "224c09124f63a68c51481a062621d93350ac4f6acf4371ea466f2d06887a77b6", func := "loop.example/constanttime/laws.FnCompileExpr", spec := "fnCompileExpr", unfollowed := true, recurses := true, apart := false, narrowed := true }
def FnCompileExprUptoSaid : Prop := fnCompileExprUptoRow.holds Try.pinned (OpenSpec.upto fnCompileExprSpec)

/-- 'laws.FnPublicPart', WHERE WHAT IT READS IS OF BULK AT MOST 1048576: true; the input reads as it did. -/
def fnPublicPartUptoRow : OpenClaim := { program := "ytckikiaockkmbaa", sum := "224c09124f63a68c51481a062621d93350ac4f6acf4371ea466f2d06887a77b6", func := "loop.example/constanttime/laws.FnPublicPart", spec := "fnPublicPart", unfollowed := true, recurses := true, apart := false, narrowed := true }
def FnPublicPartUptoSaid : Prop := fnPublicPartUptoRow.holds Try.pinned (OpenSpec.upto fnPublicPartSpec)

/-- 'laws.FnTrustedPart', WHERE WHAT IT READS IS OF BULK AT MOST 1048576: true; the input reads as it did. -/
def fnTrustedPartUptoRow : OpenClaim := { program := "ytckikiaockkmbaa", sum := "224c09124f63a68c51481a062621d93350ac4f6acf4371ea466f2d06887a77b6", func := "loop.example/constanttime/laws.FnTrustedPart", spec := "fnTrustedPart", unfollowed := true, recurses := true, apart := false, narrowed := true }
def FnTrustedPartUptoSaid : Prop := fnTrustedPartUptoRow.holds Try.pinned (OpenSpec.upto fnTrustedPartSpec)

/-- 'laws.FnExactProgramWrites', WHERE WHAT IT READS IS OF BULK AT MOST 1048576: true; the input reads as it did. -/
def fnExactProgramWritesUptoRow : OpenClaim := { program := "ytckikiaockkmbaa", sum := "224c09124f63a68c51481a062621d93350ac4f6acf4371ea466f2d06887a77b6", func := "loop.example/constanttime/laws.FnExactProgramWrites", spec := "fnExactProgramWrites", unfollowed := true, recurses := true, loops := true, apart := false, narrowed := true }
def FnExactProgramWritesUptoSaid : Prop := fnExactProgramWritesUptoRow.holds Try.pinned (OpenSpec.upto fnExactProgramWritesSpec)

/-- 'laws.FnCompileSequence', WHERE WHAT IT READS IS OF BULK AT MOST 1048576: true; the input reads as it did. -/
def fnCompileSequenceUptoRow : OpenClaim := { program := "ytckikiaockkmbaa", sum := "224c09124f63a68c51481a062621d93350ac4f6acf4371ea466f2d06887a77b6", func := "loop.example/constanttime/laws.FnCompileSequence", spec := "fnCompileSequence", unfollowed := true, recurses := true, apart := false, narrowed := true }
def FnCompileSequenceUptoSaid : Prop := fnCompileSequenceUptoRow.holds Try.pinned (OpenSpec.upto fnCompileSequenceSpec)

end Rows
end Go.Proofs.Ytckikiaockkmbaa
