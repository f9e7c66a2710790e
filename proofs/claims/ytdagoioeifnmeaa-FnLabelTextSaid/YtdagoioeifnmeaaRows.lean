/-
  No cell of these rows narrows 'for every input' (looked for: loops, veiled, ifaces, maps, wideKeys, modest, calm, conditions, laid).
  DERIVED. THE GIVEN ROWS OF THIS SEAT. 11 by the template 'for every input the law returns true; each argument reads behind the call as it read before'; 0 by the template 'total and deterministic' (their statements: YtdagoioeifnmeaaTotals.lean).
  GIVEN WITH THE SEED: the statements are not yours to turn. If you find one false, say at which input.
  Laid BY PROGRAM, IN A SANDBOX (cutbox-rows.mjs): the forced cells as the released guide's own fill.sh prints them over the translation e2cc58959e517604… (all of the seat's roots in one cut). By AI agents, Wed Nov 11 2026. No macro, syntax, notation, axiom, sorry.
-/
import Derived.Test.YtdagoioeifnmeaaChecked
import GoSem.Claim
import GoSem.ClaimJoined
import GoSem.ClaimMapViews
import Derived.JoinedTies
import Derived.KernelRfl
namespace Go.Proofs.Ytdagoioeifnmeaa
/- THE CELL 'sum', in the pinned program and in every row, IS THE sha256 OF THE DUMP (.gsa) THAT YtdagoioeifnmeaaProg.lean LOADS. Nothing in Lean hashes anything: it is a label: what it is worth is what the hold of that sum in a sandbox is worth. -/
noncomputable def Try.pinned : Pinned := { name := "ytdagoioeifnmeaa", sum := "e2cc58959e517604a29946af75c07d5551e8f582d25a9de342e349477dfa84bf", checked := Try.checked }
namespace Rows
def none {H : Type} : Left H := { results := [], args := [] }

/-- 'laws.FnLabelFlows': WHATEVER THE INPUT: true; the input reads as it did. -/
def fnLabelFlowsSpec : ChangeSpec := { name := "fnLabelFlows", fn := fun _ => fun
  | [d1, d2] => { results := [.lit (.bool true)], args := [d1, d2] }
  | _ => none }
def fnLabelFlowsRow : OpenClaim := { program := "ytdagoioeifnmeaa", sum := "e2cc58959e517604a29946af75c07d5551e8f582d25a9de342e349477dfa84bf", func := "loop.example/constanttime/laws.FnLabelFlows", spec := "fnLabelFlows", apart := false }
def FnLabelFlowsSaid : Prop := fnLabelFlowsRow.holds Try.pinned (OpenSpec.ofChange fnLabelFlowsSpec)

/-- ITS FALSE NEIGHBOUR: 'it returns false'. Refute it at one input. -/
def fnLabelFlowsWrong : ChangeSpec := { name := "fnLabelFlows", fn := fun _ => fun
  | [d1, d2] => { results := [.lit (.bool false)], args := [d1, d2] }
  | _ => none }
def FnLabelFlowsWrongFalsely : Prop := fnLabelFlowsRow.holds Try.pinned (OpenSpec.ofChange fnLabelFlowsWrong)

/-- 'laws.FnLabelSecret': WHATEVER THE INPUT: true; the input reads as it did. -/
def fnLabelSecretSpec : ChangeSpec := { name := "fnLabelSecret", fn := fun _ => fun
  | [d] => { results := [.lit (.bool true)], args := [d] }
  | _ => none }
def fnLabelSecretRow : OpenClaim := { program := "ytdagoioeifnmeaa", sum := "e2cc58959e517604a29946af75c07d5551e8f582d25a9de342e349477dfa84bf", func := "loop.example/constanttime/laws.FnLabelSecret", spec := "fnLabelSecret", apart := false }
def FnLabelSecretSaid : Prop := fnLabelSecretRow.holds Try.pinned (OpenSpec.ofChange fnLabelSecretSpec)

/-- ITS FALSE NEIGHBOUR: 'it returns false'. Refute it at one input. -/
def fnLabelSecretWrong : ChangeSpec := { name := "fnLabelSecret", fn := fun _ => fun
  | [d] => { results := [.lit (.bool false)], args := [d] }
  | _ => none }
def FnLabelSecretWrongFalsely : Prop := fnLabelSecretRow.holds Try.pinned (OpenSpec.ofChange fnLabelSecretWrong)

/-- 'laws.FnJoinLabels': WHATEVER THE INPUT: true; the input reads as it did. -/
def fnJoinLabelsSpec : ChangeSpec := { name := "fnJoinLabels", fn := fun _ => fun
  | [d] => { results := [.lit (.bool true)], args := [d] }
  | _ => none }
def fnJoinLabelsRow : OpenClaim := { program := "ytdagoioeifnmeaa", sum := "e2cc58959e517604a29946af75c07d5551e8f582d25a9de342e349477dfa84bf", func := "loop.example/constanttime/laws.FnJoinLabels", spec := "fnJoinLabels", apart := false }
def FnJoinLabelsSaid : Prop := fnJoinLabelsRow.holds Try.pinned (OpenSpec.ofChange fnJoinLabelsSpec)

/-- ITS FALSE NEIGHBOUR: 'it returns false'. Refute it at one input. -/
def fnJoinLabelsWrong : ChangeSpec := { name := "fnJoinLabels", fn := fun _ => fun
  | [d] => { results := [.lit (.bool false)], args := [d] }
  | _ => none }
def FnJoinLabelsWrongFalsely : Prop := fnJoinLabelsRow.holds Try.pinned (OpenSpec.ofChange fnJoinLabelsWrong)

/-- 'laws.FnMeetLabels': WHATEVER THE INPUT: true; the input reads as it did. -/
def fnMeetLabelsSpec : ChangeSpec := { name := "fnMeetLabels", fn := fun _ => fun
  | [d] => { results := [.lit (.bool true)], args := [d] }
  | _ => none }
def fnMeetLabelsRow : OpenClaim := { program := "ytdagoioeifnmeaa", sum := "e2cc58959e517604a29946af75c07d5551e8f582d25a9de342e349477dfa84bf", func := "loop.example/constanttime/laws.FnMeetLabels", spec := "fnMeetLabels", apart := false }
def FnMeetLabelsSaid : Prop := fnMeetLabelsRow.holds Try.pinned (OpenSpec.ofChange fnMeetLabelsSpec)

/-- ITS FALSE NEIGHBOUR: 'it returns false'. Refute it at one input. -/
def fnMeetLabelsWrong : ChangeSpec := { name := "fnMeetLabels", fn := fun _ => fun
  | [d] => { results := [.lit (.bool false)], args := [d] }
  | _ => none }
def FnMeetLabelsWrongFalsely : Prop := fnMeetLabelsRow.holds Try.pinned (OpenSpec.ofChange fnMeetLabelsWrong)

/-- 'laws.FnLabelDistributive': WHATEVER THE INPUT: true; the input reads as it did. -/
def fnLabelDistributiveSpec : ChangeSpec := { name := "fnLabelDistributive", fn := fun _ => fun
  | [d1, d2] => { results := [.lit (.bool true)], args := [d1, d2] }
  | _ => none }
def fnLabelDistributiveRow : OpenClaim := { program := "ytdagoioeifnmeaa", sum := "e2cc58959e517604a29946af75c07d5551e8f582d25a9de342e349477dfa84bf", func := "loop.example/constanttime/laws.FnLabelDistributive", spec := "fnLabelDistributive", apart := false }
def FnLabelDistributiveSaid : Prop := fnLabelDistributiveRow.holds Try.pinned (OpenSpec.ofChange fnLabelDistributiveSpec)

/-- ITS FALSE NEIGHBOUR: 'it returns false'. Refute it at one input. -/
def fnLabelDistributiveWrong : ChangeSpec := { name := "fnLabelDistributive", fn := fun _ => fun
  | [d1, d2] => { results := [.lit (.bool false)], args := [d1, d2] }
  | _ => none }
def FnLabelDistributiveWrongFalsely : Prop := fnLabelDistributiveRow.holds Try.pinned (OpenSpec.ofChange fnLabelDistributiveWrong)

/-- 'laws.FnExactFirstDifference': WHATEVER THE INPUT: true; the input reads as it did. -/
def fnExactFirstDifferenceSpec : ChangeSpec := { name := "fnExactFirstDifference", fn := fun _ => fun
  | [d1, d2] => { results := [.lit (.bool true)], args := [d1, d2] }
  | _ => none }
def fnExactFirstDifferenceRow : OpenClaim := { program := "ytdagoioeifnmeaa", sum := "e2cc58959e517604a29946af75c07d5551e8f582d25a9de342e349477dfa84bf", func := "loop.example/constanttime/laws.FnExactFirstDifference", spec := "fnExactFirstDifference", apart := false }
def FnExactFirstDifferenceSaid : Prop := fnExactFirstDifferenceRow.holds Try.pinned (OpenSpec.ofChange fnExactFirstDifferenceSpec)

/-- ITS FALSE NEIGHBOUR: 'it returns false'. Refute it at one input. -/
def fnExactFirstDifferenceWrong : ChangeSpec := { name := "fnExactFirstDifference", fn := fun _ => fun
  | [d1, d2] => { results := [.lit (.bool false)], args := [d1, d2] }
  | _ => none }
def FnExactFirstDifferenceWrongFalsely : Prop := fnExactFirstDifferenceRow.holds Try.pinned (OpenSpec.ofChange fnExactFirstDifferenceWrong)

/-- 'laws.FnExactParseLabels': WHATEVER THE INPUT: true; the input reads as it did. -/
def fnExactParseLabelsSpec : ChangeSpec := { name := "fnExactParseLabels", fn := fun _ => fun
  | [d] => { results := [.lit (.bool true)], args := [d] }
  | _ => none }
def fnExactParseLabelsRow : OpenClaim := { program := "ytdagoioeifnmeaa", sum := "e2cc58959e517604a29946af75c07d5551e8f582d25a9de342e349477dfa84bf", func := "loop.example/constanttime/laws.FnExactParseLabels", spec := "fnExactParseLabels", inPlace := ["internal/bytealg.IndexByteString"], apart := false }
def FnExactParseLabelsSaid : Prop := fnExactParseLabelsRow.holds Try.pinned (OpenSpec.ofChange fnExactParseLabelsSpec)

/-- ITS FALSE NEIGHBOUR: 'it returns false'. Refute it at one input. -/
def fnExactParseLabelsWrong : ChangeSpec := { name := "fnExactParseLabels", fn := fun _ => fun
  | [d] => { results := [.lit (.bool false)], args := [d] }
  | _ => none }
def FnExactParseLabelsWrongFalsely : Prop := fnExactParseLabelsRow.holds Try.pinned (OpenSpec.ofChange fnExactParseLabelsWrong)

/-- 'laws.FnExactTraceSame': WHATEVER THE INPUT: true; the input reads as it did. -/
def fnExactTraceSameSpec : ChangeSpec := { name := "fnExactTraceSame", fn := fun _ => fun
  | [d1, d2] => { results := [.lit (.bool true)], args := [d1, d2] }
  | _ => none }
def fnExactTraceSameRow : OpenClaim := { program := "ytdagoioeifnmeaa", sum := "e2cc58959e517604a29946af75c07d5551e8f582d25a9de342e349477dfa84bf", func := "loop.example/constanttime/laws.FnExactTraceSame", spec := "fnExactTraceSame", apart := false }
def FnExactTraceSameSaid : Prop := fnExactTraceSameRow.holds Try.pinned (OpenSpec.ofChange fnExactTraceSameSpec)

/-- ITS FALSE NEIGHBOUR: 'it returns false'. Refute it at one input. -/
def fnExactTraceSameWrong : ChangeSpec := { name := "fnExactTraceSame", fn := fun _ => fun
  | [d1, d2] => { results := [.lit (.bool false)], args := [d1, d2] }
  | _ => none }
def FnExactTraceSameWrongFalsely : Prop := fnExactTraceSameRow.holds Try.pinned (OpenSpec.ofChange fnExactTraceSameWrong)

/-- 'laws.FnExactFormatLabels': WHATEVER THE INPUT: true; the input reads as it did. -/
def fnExactFormatLabelsSpec : ChangeSpec := { name := "fnExactFormatLabels", fn := fun _ => fun
  | [d] => { results := [.lit (.bool true)], args := [d] }
  | _ => none }
def fnExactFormatLabelsRow : OpenClaim := { program := "ytdagoioeifnmeaa", sum := "e2cc58959e517604a29946af75c07d5551e8f582d25a9de342e349477dfa84bf", func := "loop.example/constanttime/laws.FnExactFormatLabels", spec := "fnExactFormatLabels", inPlace := ["internal/abi.NoEscape"], unfollowed := true, recurses := true, apart := false }
def FnExactFormatLabelsSaid : Prop := fnExactFormatLabelsRow.holds Try.pinned (OpenSpec.ofChange fnExactFormatLabelsSpec)

/-- ITS FALSE NEIGHBOUR: 'it returns false'. Refute it at one input. -/
def fnExactFormatLabelsWrong : ChangeSpec := { name := "fnExactFormatLabels", fn := fun _ => fun
  | [d] => { results := [.lit (.bool false)], args := [d] }
  | _ => none }
def FnExactFormatLabelsWrongFalsely : Prop := fnExactFormatLabelsRow.holds Try.pinned (OpenSpec.ofChange fnExactFormatLabelsWrong)

/-- 'laws.FnExactProjectTrace': WHATEVER THE INPUT: true; the input reads as it did. -/
def fnExactProjectTraceSpec : ChangeSpec := { name := "fnExactProjectTrace", fn := fun _ => fun
  | [d] => { results := [.lit (.bool true)], args := [d] }
  | _ => none }
def fnExactProjectTraceRow : OpenClaim := { program := "ytdagoioeifnmeaa", sum := "e2cc58959e517604a29946af75c07d5551e8f582d25a9de342e349477dfa84bf", func := "loop.example/constanttime/laws.FnExactProjectTrace", spec := "fnExactProjectTrace", apart := false }
def FnExactProjectTraceSaid : Prop := fnExactProjectTraceRow.holds Try.pinned (OpenSpec.ofChange fnExactProjectTraceSpec)

/-- ITS FALSE NEIGHBOUR: 'it returns false'. Refute it at one input. -/
def fnExactProjectTraceWrong : ChangeSpec := { name := "fnExactProjectTrace", fn := fun _ => fun
  | [d] => { results := [.lit (.bool false)], args := [d] }
  | _ => none }
def FnExactProjectTraceWrongFalsely : Prop := fnExactProjectTraceRow.holds Try.pinned (OpenSpec.ofChange fnExactProjectTraceWrong)

/-- 'laws.FnLabelText': WHATEVER THE INPUT: true; the input reads as it did. -/
def fnLabelTextSpec : ChangeSpec := { name := "fnLabelText", fn := fun _ => fun
  | [d1, d2] => { results := [.lit (.bool true)], args := [d1, d2] }
  | _ => none }
def fnLabelTextRow : OpenClaim := { program := "ytdagoioeifnmeaa", sum := "e2cc58959e517604a29946af75c07d5551e8f582d25a9de342e349477dfa84bf", func := "loop.example/constanttime/laws.FnLabelText", spec := "fnLabelText", inPlace := ["internal/abi.NoEscape", "internal/bytealg.IndexByteString"], unfollowed := true, recurses := true, apart := false }
def FnLabelTextSaid : Prop := fnLabelTextRow.holds Try.pinned (OpenSpec.ofChange fnLabelTextSpec)

/-- ITS FALSE NEIGHBOUR: 'it returns false'. Refute it at one input. -/
def fnLabelTextWrong : ChangeSpec := { name := "fnLabelText", fn := fun _ => fun
  | [d1, d2] => { results := [.lit (.bool false)], args := [d1, d2] }
  | _ => none }
def FnLabelTextWrongFalsely : Prop := fnLabelTextRow.holds Try.pinned (OpenSpec.ofChange fnLabelTextWrong)

/- THE SECOND FORM. 'bulk': how many values and letters a reading holds, each counted each time it is reached (what is shared counts as often as it is met; a slice's spare places count too). A statement '..UptoSaid' is the law's where the arguments, and the package variables that the reading takes, are together of bulk at most 1048576: NARROWER than '..Said'. Prove '..Said' where nothing that the law and all that it calls make is longer than what came in: it says more and counts as full. Else prove '..UptoSaid'. A law counts once. -/
mutual
def uptoBulk {H : Type} : DataW H → Nat
  | .lit (.string bytes) => bytes.length + 1
  | .lit _ => 1
  | .nil => 1
  | .ptr d => uptoBulk d + 1
  | .slice elems spare => uptoBulkAll elems + uptoBulkAll spare + 1
  | .agg parts => uptoBulkAll parts + 1
  | .iface _ d => uptoBulk d + 1
  | .map entries => uptoBulkEntries entries + 1
  | .held _ => 1
def uptoBulkAll {H : Type} : List (DataW H) → Nat
  | [] => 0
  | d :: r => uptoBulk d + uptoBulkAll r
def uptoBulkEntries {H : Type} : List (Lit × DataW H) → Nat
  | [] => 0
  | x :: r => uptoBulkEntry x + uptoBulkEntries r
def uptoBulkEntry {H : Type} : Lit × DataW H → Nat
  | (.string bytes, d) => bytes.length + uptoBulk d + 1
  | (_, d) => uptoBulk d + 1
 end
def uptoSmall : (H : Type) → List (DataW H) → Bool := fun _ ds => decide (uptoBulkAll ds ≤ 1048576)
def OpenSpec.upto (s : _root_.Go.ChangeSpec) : _root_.Go.OpenSpec := { _root_.Go.OpenSpec.ofChange s with cond := some uptoSmall }

/-- 'laws.FnLabelFlows', WHERE WHAT IT READS IS OF BULK AT MOST 1048576: true; the input reads as it did. -/
def fnLabelFlowsUptoRow : OpenClaim := { program := "ytdagoioeifnmeaa", sum := "e2cc58959e517604a29946af75c07d5551e8f582d25a9de342e349477dfa84bf", func := "loop.example/constanttime/laws.FnLabelFlows", spec := "fnLabelFlows", apart := false, narrowed := true }
def FnLabelFlowsUptoSaid : Prop := fnLabelFlowsUptoRow.holds Try.pinned (OpenSpec.upto fnLabelFlowsSpec)

/-- 'laws.FnLabelSecret', WHERE WHAT IT READS IS OF BULK AT MOST 1048576: true; the input reads as it did. -/
def fnLabelSecretUptoRow : OpenClaim := { program := "ytdagoioeifnmeaa", sum := "e2cc58959e517604a29946af75c07d5551e8f582d25a9de342e349477dfa84bf", func := "loop.example/constanttime/laws.FnLabelSecret", spec := "fnLabelSecret", apart := false, narrowed := true }
def FnLabelSecretUptoSaid : Prop := fnLabelSecretUptoRow.holds Try.pinned (OpenSpec.upto fnLabelSecretSpec)

/-- 'laws.FnJoinLabels', WHERE WHAT IT READS IS OF BULK AT MOST 1048576: true; the input reads as it did. -/
def fnJoinLabelsUptoRow : OpenClaim := { program := "ytdagoioeifnmeaa", sum := "e2cc58959e517604a29946af75c07d5551e8f582d25a9de342e349477dfa84bf", func := "loop.example/constanttime/laws.FnJoinLabels", spec := "fnJoinLabels", apart := false, narrowed := true }
def FnJoinLabelsUptoSaid : Prop := fnJoinLabelsUptoRow.holds Try.pinned (OpenSpec.upto fnJoinLabelsSpec)

/-- 'laws.FnMeetLabels', WHERE WHAT IT READS IS OF BULK AT MOST 1048576: true; the input reads as it did. -/
def fnMeetLabelsUptoRow : OpenClaim := { program := "ytdagoioeifnmeaa", sum := "e2cc58959e517604a29946af75c07d5551e8f582d25a9de342e349477dfa84bf", func := "loop.example/constanttime/laws.FnMeetLabels", spec := "fnMeetLabels", apart := false, narrowed := true }
def FnMeetLabelsUptoSaid : Prop := fnMeetLabelsUptoRow.holds Try.pinned (OpenSpec.upto fnMeetLabelsSpec)

/-- 'laws.FnLabelDistributive', WHERE WHAT IT READS IS OF BULK AT MOST 1048576: true; the input reads as it did. -/
def fnLabelDistributiveUptoRow : OpenClaim := { program := "ytdagoioeifnmeaa", sum := "e2cc58959e517604a29946af75c07d5551e8f582d25a9de342e349477dfa84bf", func := "loop.example/constanttime/laws.FnLabelDistributive", spec := "fnLabelDistributive", apart := false, narrowed := true }
def FnLabelDistributiveUptoSaid : Prop := fnLabelDistributiveUptoRow.holds Try.pinned (OpenSpec.upto fnLabelDistributiveSpec)

/-- 'laws.FnExactFirstDifference', WHERE WHAT IT READS IS OF BULK AT MOST 1048576: true; the input reads as it did. -/
def fnExactFirstDifferenceUptoRow : OpenClaim := { program := "ytdagoioeifnmeaa", sum := "e2cc58959e517604a29946af75c07d5551e8f582d25a9de342e349477dfa84bf", func := "loop.example/constanttime/laws.FnExactFirstDifference", spec := "fnExactFirstDifference", apart := false, narrowed := true }
def FnExactFirstDifferenceUptoSaid : Prop := fnExactFirstDifferenceUptoRow.holds Try.pinned (OpenSpec.upto fnExactFirstDifferenceSpec)

/-- 'laws.FnExactParseLabels', WHERE WHAT IT READS IS OF BULK AT MOST 1048576: true; the input reads as it did. -/
def fnExactParseLabelsUptoRow : OpenClaim := { program := "ytdagoioeifnmeaa", sum := "e2cc58959e517604a29946af75c07d5551e8f582d25a9de342e349477dfa84bf", func := "loop.example/constanttime/laws.FnExactParseLabels", spec := "fnExactParseLabels", inPlace := ["internal/bytealg.IndexByteString"], apart := false, narrowed := true }
def FnExactParseLabelsUptoSaid : Prop := fnExactParseLabelsUptoRow.holds Try.pinned (OpenSpec.upto fnExactParseLabelsSpec)

/-- 'laws.FnExactTraceSame', WHERE WHAT IT READS IS OF BULK AT MOST 1048576: true; the input reads as it did. -/
def fnExactTraceSameUptoRow : OpenClaim := { program := "ytdagoioeifnmeaa", sum := "e2cc58959e517604a29946af75c07d5551e8f582d25a9de342e349477dfa84bf", func := "loop.example/constanttime/laws.FnExactTraceSame", spec := "fnExactTraceSame", apart := false, narrowed := true }
def FnExactTraceSameUptoSaid : Prop := fnExactTraceSameUptoRow.holds Try.pinned (OpenSpec.upto fnExactTraceSameSpec)

/-- 'laws.FnExactFormatLabels', WHERE WHAT IT READS IS OF BULK AT MOST 1048576: true; the input reads as it did. -/
def fnExactFormatLabelsUptoRow : OpenClaim := { program := "ytdagoioeifnmeaa", sum := "e2cc58959e517604a29946af75c07d5551e8f582d25a9de342e349477dfa84bf", func := "loop.example/constanttime/laws.FnExactFormatLabels", spec := "fnExactFormatLabels", inPlace := ["internal/abi.NoEscape"], unfollowed := true, recurses := true, apart := false, narrowed := true }
def FnExactFormatLabelsUptoSaid : Prop := fnExactFormatLabelsUptoRow.holds Try.pinned (OpenSpec.upto fnExactFormatLabelsSpec)

/-- 'laws.FnExactProjectTrace', WHERE WHAT IT READS IS OF BULK AT MOST 1048576: true; the input reads as it did. -/
def fnExactProjectTraceUptoRow : OpenClaim := { program := "ytdagoioeifnmeaa", sum := "e2cc58959e517604a29946af75c07d5551e8f582d25a9de342e349477dfa84bf", func := "loop.example/constanttime/laws.FnExactProjectTrace", spec := "fnExactProjectTrace", apart := false, narrowed := true }
def FnExactProjectTraceUptoSaid : Prop := fnExactProjectTraceUptoRow.holds Try.pinned (OpenSpec.upto fnExactProjectTraceSpec)

/-- 'laws.FnLabelText', WHERE WHAT IT READS IS OF BULK AT MOST 1048576: true; the input reads as it did. -/
def fnLabelTextUptoRow : OpenClaim := { program := "ytdagoioeifnmeaa", sum := "e2cc58959e517604a29946af75c07d5551e8f582d25a9de342e349477dfa84bf", func := "loop.example/constanttime/laws.FnLabelText", spec := "fnLabelText", inPlace := ["internal/abi.NoEscape", "internal/bytealg.IndexByteString"], unfollowed := true, recurses := true, apart := false, narrowed := true }
def FnLabelTextUptoSaid : Prop := fnLabelTextUptoRow.holds Try.pinned (OpenSpec.upto fnLabelTextSpec)

end Rows
end Go.Proofs.Ytdagoioeifnmeaa
