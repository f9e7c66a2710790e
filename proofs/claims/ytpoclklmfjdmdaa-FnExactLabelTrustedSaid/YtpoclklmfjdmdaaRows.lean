/-
  No cell of these rows narrows 'for every input' (looked for: loops, veiled, ifaces, maps, wideKeys, modest, calm, conditions, laid).
  DERIVED. THE GIVEN ROWS OF THIS SEAT. 7 by the template 'for every input the law returns true; each argument reads behind the call as it read before'; 0 by the template 'total and deterministic' (their statements: YtpoclklmfjdmdaaTotals.lean).
  GIVEN WITH THE SEED: the statements are not yours to turn. If you find one false, say at which input.
  Laid BY PROGRAM, IN A SANDBOX (cutbox-rows.mjs): the forced cells as the released guide's own fill.sh prints them over the translation 48130c7507ecd977… (all of the seat's roots in one cut). By AI agents, Wed Nov 11 2026. No macro, syntax, notation, axiom, sorry.
-/
import Derived.Test.YtpoclklmfjdmdaaChecked
import GoSem.Claim
import GoSem.ClaimJoined
import GoSem.ClaimMapViews
import Derived.JoinedTies
import Derived.KernelRfl
namespace Go.Proofs.Ytpoclklmfjdmdaa
/- THE CELL 'sum', in the pinned program and in every row, IS THE sha256 OF THE DUMP (.gsa) THAT YtpoclklmfjdmdaaProg.lean LOADS. Nothing in Lean hashes anything: it is a label: what it is worth is what the hold of that sum in a sandbox is worth. -/
noncomputable def Try.pinned : Pinned := { name := "ytpoclklmfjdmdaa", sum := "48130c7507ecd97742043ec9ef8df77e5311ab061c1b8ef95381845f923a9354", checked := Try.checked }
namespace Rows
def none {H : Type} : Left H := { results := [], args := [] }

/-- 'laws.FnExactConstants': WHATEVER THE INPUT: true; the input reads as it did. -/
def fnExactConstantsSpec : ChangeSpec := { name := "fnExactConstants", fn := fun _ => fun
  | [] => { results := [.lit (.bool true)], args := [] }
  | _ => none }
def fnExactConstantsRow : OpenClaim := { program := "ytpoclklmfjdmdaa", sum := "48130c7507ecd97742043ec9ef8df77e5311ab061c1b8ef95381845f923a9354", func := "loop.example/constanttime/laws.FnExactConstants", spec := "fnExactConstants", apart := false }
def FnExactConstantsSaid : Prop := fnExactConstantsRow.holds Try.pinned (OpenSpec.ofChange fnExactConstantsSpec)

/-- ITS FALSE NEIGHBOUR: 'it returns false'. Refute it at one input. -/
def fnExactConstantsWrong : ChangeSpec := { name := "fnExactConstants", fn := fun _ => fun
  | [] => { results := [.lit (.bool false)], args := [] }
  | _ => none }
def FnExactConstantsWrongFalsely : Prop := fnExactConstantsRow.holds Try.pinned (OpenSpec.ofChange fnExactConstantsWrong)

/-- 'laws.FnExactLabelValid': WHATEVER THE INPUT: true; the input reads as it did. -/
def fnExactLabelValidSpec : ChangeSpec := { name := "fnExactLabelValid", fn := fun _ => fun
  | [d] => { results := [.lit (.bool true)], args := [d] }
  | _ => none }
def fnExactLabelValidRow : OpenClaim := { program := "ytpoclklmfjdmdaa", sum := "48130c7507ecd97742043ec9ef8df77e5311ab061c1b8ef95381845f923a9354", func := "loop.example/constanttime/laws.FnExactLabelValid", spec := "fnExactLabelValid", apart := false }
def FnExactLabelValidSaid : Prop := fnExactLabelValidRow.holds Try.pinned (OpenSpec.ofChange fnExactLabelValidSpec)

/-- ITS FALSE NEIGHBOUR: 'it returns false'. Refute it at one input. -/
def fnExactLabelValidWrong : ChangeSpec := { name := "fnExactLabelValid", fn := fun _ => fun
  | [d] => { results := [.lit (.bool false)], args := [d] }
  | _ => none }
def FnExactLabelValidWrongFalsely : Prop := fnExactLabelValidRow.holds Try.pinned (OpenSpec.ofChange fnExactLabelValidWrong)

/-- 'laws.FnExactLabelSecret': WHATEVER THE INPUT: true; the input reads as it did. -/
def fnExactLabelSecretSpec : ChangeSpec := { name := "fnExactLabelSecret", fn := fun _ => fun
  | [d] => { results := [.lit (.bool true)], args := [d] }
  | _ => none }
def fnExactLabelSecretRow : OpenClaim := { program := "ytpoclklmfjdmdaa", sum := "48130c7507ecd97742043ec9ef8df77e5311ab061c1b8ef95381845f923a9354", func := "loop.example/constanttime/laws.FnExactLabelSecret", spec := "fnExactLabelSecret", apart := false }
def FnExactLabelSecretSaid : Prop := fnExactLabelSecretRow.holds Try.pinned (OpenSpec.ofChange fnExactLabelSecretSpec)

/-- ITS FALSE NEIGHBOUR: 'it returns false'. Refute it at one input. -/
def fnExactLabelSecretWrong : ChangeSpec := { name := "fnExactLabelSecret", fn := fun _ => fun
  | [d] => { results := [.lit (.bool false)], args := [d] }
  | _ => none }
def FnExactLabelSecretWrongFalsely : Prop := fnExactLabelSecretRow.holds Try.pinned (OpenSpec.ofChange fnExactLabelSecretWrong)

/-- 'laws.FnExactLabelTrusted': WHATEVER THE INPUT: true; the input reads as it did. -/
def fnExactLabelTrustedSpec : ChangeSpec := { name := "fnExactLabelTrusted", fn := fun _ => fun
  | [d] => { results := [.lit (.bool true)], args := [d] }
  | _ => none }
def fnExactLabelTrustedRow : OpenClaim := { program := "ytpoclklmfjdmdaa", sum := "48130c7507ecd97742043ec9ef8df77e5311ab061c1b8ef95381845f923a9354", func := "loop.example/constanttime/laws.FnExactLabelTrusted", spec := "fnExactLabelTrusted", apart := false }
def FnExactLabelTrustedSaid : Prop := fnExactLabelTrustedRow.holds Try.pinned (OpenSpec.ofChange fnExactLabelTrustedSpec)

/-- ITS FALSE NEIGHBOUR: 'it returns false'. Refute it at one input. -/
def fnExactLabelTrustedWrong : ChangeSpec := { name := "fnExactLabelTrusted", fn := fun _ => fun
  | [d] => { results := [.lit (.bool false)], args := [d] }
  | _ => none }
def FnExactLabelTrustedWrongFalsely : Prop := fnExactLabelTrustedRow.holds Try.pinned (OpenSpec.ofChange fnExactLabelTrustedWrong)

/-- 'laws.FnExactLabelFlows': WHATEVER THE INPUT: true; the input reads as it did. -/
def fnExactLabelFlowsSpec : ChangeSpec := { name := "fnExactLabelFlows", fn := fun _ => fun
  | [d1, d2] => { results := [.lit (.bool true)], args := [d1, d2] }
  | _ => none }
def fnExactLabelFlowsRow : OpenClaim := { program := "ytpoclklmfjdmdaa", sum := "48130c7507ecd97742043ec9ef8df77e5311ab061c1b8ef95381845f923a9354", func := "loop.example/constanttime/laws.FnExactLabelFlows", spec := "fnExactLabelFlows", apart := false }
def FnExactLabelFlowsSaid : Prop := fnExactLabelFlowsRow.holds Try.pinned (OpenSpec.ofChange fnExactLabelFlowsSpec)

/-- ITS FALSE NEIGHBOUR: 'it returns false'. Refute it at one input. -/
def fnExactLabelFlowsWrong : ChangeSpec := { name := "fnExactLabelFlows", fn := fun _ => fun
  | [d1, d2] => { results := [.lit (.bool false)], args := [d1, d2] }
  | _ => none }
def FnExactLabelFlowsWrongFalsely : Prop := fnExactLabelFlowsRow.holds Try.pinned (OpenSpec.ofChange fnExactLabelFlowsWrong)

/-- 'laws.FnExactJoinLabels': WHATEVER THE INPUT: true; the input reads as it did. -/
def fnExactJoinLabelsSpec : ChangeSpec := { name := "fnExactJoinLabels", fn := fun _ => fun
  | [d1, d2] => { results := [.lit (.bool true)], args := [d1, d2] }
  | _ => none }
def fnExactJoinLabelsRow : OpenClaim := { program := "ytpoclklmfjdmdaa", sum := "48130c7507ecd97742043ec9ef8df77e5311ab061c1b8ef95381845f923a9354", func := "loop.example/constanttime/laws.FnExactJoinLabels", spec := "fnExactJoinLabels", apart := false }
def FnExactJoinLabelsSaid : Prop := fnExactJoinLabelsRow.holds Try.pinned (OpenSpec.ofChange fnExactJoinLabelsSpec)

/-- ITS FALSE NEIGHBOUR: 'it returns false'. Refute it at one input. -/
def fnExactJoinLabelsWrong : ChangeSpec := { name := "fnExactJoinLabels", fn := fun _ => fun
  | [d1, d2] => { results := [.lit (.bool false)], args := [d1, d2] }
  | _ => none }
def FnExactJoinLabelsWrongFalsely : Prop := fnExactJoinLabelsRow.holds Try.pinned (OpenSpec.ofChange fnExactJoinLabelsWrong)

/-- 'laws.FnExactMeetLabels': WHATEVER THE INPUT: true; the input reads as it did. -/
def fnExactMeetLabelsSpec : ChangeSpec := { name := "fnExactMeetLabels", fn := fun _ => fun
  | [d1, d2] => { results := [.lit (.bool true)], args := [d1, d2] }
  | _ => none }
def fnExactMeetLabelsRow : OpenClaim := { program := "ytpoclklmfjdmdaa", sum := "48130c7507ecd97742043ec9ef8df77e5311ab061c1b8ef95381845f923a9354", func := "loop.example/constanttime/laws.FnExactMeetLabels", spec := "fnExactMeetLabels", apart := false }
def FnExactMeetLabelsSaid : Prop := fnExactMeetLabelsRow.holds Try.pinned (OpenSpec.ofChange fnExactMeetLabelsSpec)

/-- ITS FALSE NEIGHBOUR: 'it returns false'. Refute it at one input. -/
def fnExactMeetLabelsWrong : ChangeSpec := { name := "fnExactMeetLabels", fn := fun _ => fun
  | [d1, d2] => { results := [.lit (.bool false)], args := [d1, d2] }
  | _ => none }
def FnExactMeetLabelsWrongFalsely : Prop := fnExactMeetLabelsRow.holds Try.pinned (OpenSpec.ofChange fnExactMeetLabelsWrong)

/- THE SECOND FORM. 'bulk': how many values and letters a reading holds, each counted each time it is reached (what is shared counts as often as it is met; a slice's spare places count too). A statement '..UptoSaid' is the law's where the arguments, and the package variables that the reading takes, are together of bulk at most 1048576: NARROWER than '..Said'. Prove '..Said' where nothing that the law and all that it calls make is longer than what came in: it says more and counts as full. Else prove '..UptoSaid'. A law counts once. -/
mutual
def uptoBulk {H : Type} : DataW H → Nat
  | .lit (.string bytes) => bytes.length + 1
  | .lit _ => 1
  | .nil => 1
  | .ptr d => uptoBulk d + 1
  | .slice elems spare => uptoBulkAll elems + uptoBulkAll spare + 1
  | .agg parts => uptoBulkAll parts + 1
  | .iface _ d => uptoBulk d + 1
  | .map entries => uptoBulkEntries entries + 1
  | .held _ => 1
def uptoBulkAll {H : Type} : List (DataW H) → Nat
  | [] => 0
  | d :: r => uptoBulk d + uptoBulkAll r
def uptoBulkEntries {H : Type} : List (Lit × DataW H) → Nat
  | [] => 0
  | x :: r => uptoBulkEntry x + uptoBulkEntries r
def uptoBulkEntry {H : Type} : Lit × DataW H → Nat
  | (.string bytes, d) => bytes.length + uptoBulk d + 1
  | (_, d) => uptoBulk d + 1
 end
def uptoSmall : (H : Type) → List (DataW H) → Bool := fun _ ds => decide (uptoBulkAll ds ≤ 1048576)
def OpenSpec.upto (s : _root_.Go.ChangeSpec) : _root_.Go.OpenSpec := { _root_.Go.OpenSpec.ofChange s with cond := some uptoSmall }

/-- 'laws.FnExactConstants', WHERE WHAT IT READS IS OF BULK AT MOST 1048576: true; the input reads as it did. -/
def fnExactConstantsUptoRow : OpenClaim := { program := "ytpoclklmfjdmdaa", sum := "48130c7507ecd97742043ec9ef8df77e5311ab061c1b8ef95381845f923a9354", func := "loop.example/constanttime/laws.FnExactConstants", spec := "fnExactConstants", apart := false, narrowed := true }
def FnExactConstantsUptoSaid : Prop := fnExactConstantsUptoRow.holds Try.pinned (OpenSpec.upto fnExactConstantsSpec)

/-- 'laws.FnExactLabelValid', WHERE WHAT IT READS IS OF BULK AT MOST 1048576: true; the input reads as it did. -/
def fnExactLabelValidUptoRow : OpenClaim := { program := "ytpoclklmfjdmdaa", sum := "48130c7507ecd97742043ec9ef8df77e5311ab061c1b8ef95381845f923a9354", func := "loop.example/constanttime/laws.FnExactLabelValid", spec := "fnExactLabelValid", apart := false, narrowed := true }
def FnExactLabelValidUptoSaid : Prop := fnExactLabelValidUptoRow.holds Try.pinned (OpenSpec.upto fnExactLabelValidSpec)

/-- 'laws.FnExactLabelSecret', WHERE WHAT IT READS IS OF BULK AT MOST 1048576: true; the input reads as it did. -/
def fnExactLabelSecretUptoRow : OpenClaim := { program := "ytpoclklmfjdmdaa", sum := "48130c7507ecd97742043ec9ef8df77e5311ab061c1b8ef95381845f923a9354", func := "loop.example/constanttime/laws.FnExactLabelSecret", spec := "fnExactLabelSecret", apart := false, narrowed := true }
def FnExactLabelSecretUptoSaid : Prop := fnExactLabelSecretUptoRow.holds Try.pinned (OpenSpec.upto fnExactLabelSecretSpec)

/-- 'laws.FnExactLabelTrusted', WHERE WHAT IT READS IS OF BULK AT MOST 1048576: true; the input reads as it did. -/
def fnExactLabelTrustedUptoRow : OpenClaim := { program := "ytpoclklmfjdmdaa", sum := "48130c7507ecd97742043ec9ef8df77e5311ab061c1b8ef95381845f923a9354", func := "loop.example/constanttime/laws.FnExactLabelTrusted", spec := "fnExactLabelTrusted", apart := false, narrowed := true }
def FnExactLabelTrustedUptoSaid : Prop := fnExactLabelTrustedUptoRow.holds Try.pinned (OpenSpec.upto fnExactLabelTrustedSpec)

/-- 'laws.FnExactLabelFlows', WHERE WHAT IT READS IS OF BULK AT MOST 1048576: true; the input reads as it did. -/
def fnExactLabelFlowsUptoRow : OpenClaim := { program := "ytpoclklmfjdmdaa", sum := "48130c7507ecd97742043ec9ef8df77e5311ab061c1b8ef95381845f923a9354", func := "loop.example/constanttime/laws.FnExactLabelFlows", spec := "fnExactLabelFlows", apart := false, narrowed := true }
def FnExactLabelFlowsUptoSaid : Prop := fnExactLabelFlowsUptoRow.holds Try.pinned (OpenSpec.upto fnExactLabelFlowsSpec)

/-- 'laws.FnExactJoinLabels', WHERE WHAT IT READS IS OF BULK AT MOST 1048576: true; the input reads as it did. -/
def fnExactJoinLabelsUptoRow : OpenClaim := { program := "ytpoclklmfjdmdaa", sum := "48130c7507ecd97742043ec9ef8df77e5311ab061c1b8ef95381845f923a9354", func := "loop.example/constanttime/laws.FnExactJoinLabels", spec := "fnExactJoinLabels", apart := false, narrowed := true }
def FnExactJoinLabelsUptoSaid : Prop := fnExactJoinLabelsUptoRow.holds Try.pinned (OpenSpec.upto fnExactJoinLabelsSpec)

/-- 'laws.FnExactMeetLabels', WHERE WHAT IT READS IS OF BULK AT MOST 1048576: true; the input reads as it did. -/
def fnExactMeetLabelsUptoRow : OpenClaim := { program := "ytpoclklmfjdmdaa", sum := "48130c7507ecd97742043ec9ef8df77e5311ab061c1b8ef95381845f923a9354", func := "loop.example/constanttime/laws.FnExactMeetLabels", spec := "fnExactMeetLabels", apart := false, narrowed := true }
def FnExactMeetLabelsUptoSaid : Prop := fnExactMeetLabelsUptoRow.holds Try.pinned (OpenSpec.upto fnExactMeetLabelsSpec)

end Rows
end Go.Proofs.Ytpoclklmfjdmdaa
