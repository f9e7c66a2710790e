/-
  NARROWER THAN 'FOR EVERY INPUT', by the rows' own cells (each row's printed sentence says how): FnExactCountStmts: loops · FnExactReleaseFree: loops · FnExactProgramWrites: loops · FnExactCheckFlow: loops · FnExactCompileExpr: loops.
  DERIVED. THE GIVEN ROWS OF THIS SEAT. 12 by the template 'for every input the law returns true; each argument reads behind the call as it read before'; 0 by the template 'total and deterministic' (their statements: YtbnhhmgdkiomoaaTotals.lean).
  GIVEN WITH THE SEED: the statements are not yours to turn. If you find one false, say at which input.
  Laid BY PROGRAM, IN A SANDBOX (cutbox-rows.mjs): the forced cells as the released guide's own fill.sh prints them over the translation 2c32a1a211c2959d… (all of the seat's roots in one cut). By AI agents, Wed Nov 11 2026. No macro, syntax, notation, axiom, sorry.
-/
import Derived.Test.YtbnhhmgdkiomoaaChecked
import GoSem.Claim
import GoSem.ClaimJoined
import GoSem.ClaimMapViews
import Derived.JoinedTies
import Derived.KernelRfl
namespace Go.Proofs.Ytbnhhmgdkiomoaa
/- THE CELL 'sum', in the pinned program and in every row, IS THE sha256 OF THE DUMP (.gsa) THAT YtbnhhmgdkiomoaaProg.lean LOADS. Nothing in Lean hashes anything: it is a label: what it is worth is what the hold of that sum in a sandbox is worth. -/
noncomputable def Try.pinned : Pinned := { name := "ytbnhhmgdkiomoaa", sum := "2c32a1a211c2959d0c8925e2914874bc870d7319e753700a66d8d15a108e749c", checked := Try.checked }
namespace Rows
def none {H : Type} : Left H := { results := [], args := [] }

/-- 'laws.FnExprSame': WHATEVER THE INPUT: true; the input reads as it did. -/
def fnExprSameSpec : ChangeSpec := { name := "fnExprSame", fn := fun _ => fun
  | [d] => { results := [.lit (.bool true)], args := [d] }
  | _ => none }
def fnExprSameRow : OpenClaim := { program := "ytbnhhmgdkiomoaa", sum := "2c32a1a211c2959d0c8925e2914874bc870d7319e753700a66d8d15a108e749c", func := "loop.example/constanttime/laws.FnExprSame", spec := "fnExprSame", unfollowed := true, recurses := true, apart := false }
def FnExprSameSaid : Prop := fnExprSameRow.holds Try.pinned (OpenSpec.ofChange fnExprSameSpec)

/-- ITS FALSE NEIGHBOUR: 'it returns false'. Refute it at one input. -/
def fnExprSameWrong : ChangeSpec := { name := "fnExprSame", fn := fun _ => fun
  | [d] => { results := [.lit (.bool false)], args := [d] }
  | _ => none }
def FnExprSameWrongFalsely : Prop := fnExprSameRow.holds Try.pinned (OpenSpec.ofChange fnExprSameWrong)

/-- 'laws.FnExprKids': WHATEVER THE INPUT: true; the input reads as it did. -/
def fnExprKidsSpec : ChangeSpec := { name := "fnExprKids", fn := fun _ => fun
  | [d] => { results := [.lit (.bool true)], args := [d] }
  | _ => none }
def fnExprKidsRow : OpenClaim := { program := "ytbnhhmgdkiomoaa", sum := "2c32a1a211c2959d0c8925e2914874bc870d7319e753700a66d8d15a108e749c", func := "loop.example/constanttime/laws.FnExprKids", spec := "fnExprKids", unfollowed := true, recurses := true, apart := false }
def FnExprKidsSaid : Prop := fnExprKidsRow.holds Try.pinned (OpenSpec.ofChange fnExprKidsSpec)

/-- ITS FALSE NEIGHBOUR: 'it returns false'. Refute it at one input. -/
def fnExprKidsWrong : ChangeSpec := { name := "fnExprKids", fn := fun _ => fun
  | [d] => { results := [.lit (.bool false)], args := [d] }
  | _ => none }
def FnExprKidsWrongFalsely : Prop := fnExprKidsRow.holds Try.pinned (OpenSpec.ofChange fnExprKidsWrong)

/-- 'laws.FnProgramEmpty': WHATEVER THE INPUT: true; the input reads as it did. -/
def fnProgramEmptySpec : ChangeSpec := { name := "fnProgramEmpty", fn := fun _ => fun
  | [d] => { results := [.lit (.bool true)], args := [d] }
  | _ => none }
def fnProgramEmptyRow : OpenClaim := { program := "ytbnhhmgdkiomoaa", sum := "2c32a1a211c2959d0c8925e2914874bc870d7319e753700a66d8d15a108e749c", func := "loop.example/constanttime/laws.FnProgramEmpty", spec := "fnProgramEmpty", unfollowed := true, recurses := true, apart := false }
def FnProgramEmptySaid : Prop := fnProgramEmptyRow.holds Try.pinned (OpenSpec.ofChange fnProgramEmptySpec)

/-- ITS FALSE NEIGHBOUR: 'it returns false'. Refute it at one input. -/
def fnProgramEmptyWrong : ChangeSpec := { name := "fnProgramEmpty", fn := fun _ => fun
  | [d] => { results := [.lit (.bool false)], args := [d] }
  | _ => none }
def FnProgramEmptyWrongFalsely : Prop := fnProgramEmptyRow.holds Try.pinned (OpenSpec.ofChange fnProgramEmptyWrong)

/-- 'laws.FnCountStmts': WHATEVER THE INPUT: true; the input reads as it did. -/
def fnCountStmtsSpec : ChangeSpec := { name := "fnCountStmts", fn := fun _ => fun
  | [d1, d2] => { results := [.lit (.bool true)], args := [d1, d2] }
  | _ => none }
def fnCountStmtsRow : OpenClaim := { program := "ytbnhhmgdkiomoaa", sum := "2c32a1a211c2959d0c8925e2914874bc870d7319e753700a66d8d15a108e749c", func := "loop.example/constanttime/laws.FnCountStmts", spec := "fnCountStmts", unfollowed := true, recurses := true, apart := false }
def FnCountStmtsSaid : Prop := fnCountStmtsRow.holds Try.pinned (OpenSpec.ofChange fnCountStmtsSpec)

/-- ITS FALSE NEIGHBOUR: 'it returns false'. Refute it at one input. -/
def fnCountStmtsWrong : ChangeSpec := { name := "fnCountStmts", fn := fun _ => fun
  | [d1, d2] => { results := [.lit (.bool false)], args := [d1, d2] }
  | _ => none }
def FnCountStmtsWrongFalsely : Prop := fnCountStmtsRow.holds Try.pinned (OpenSpec.ofChange fnCountStmtsWrong)

/-- 'laws.FnProgramWrites': WHATEVER THE INPUT: true; the input reads as it did. -/
def fnProgramWritesSpec : ChangeSpec := { name := "fnProgramWrites", fn := fun _ => fun
  | [d1, d2] => { results := [.lit (.bool true)], args := [d1, d2] }
  | _ => none }
def fnProgramWritesRow : OpenClaim := { program := "ytbnhhmgdkiomoaa", sum := "2c32a1a211c2959d0c8925e2914874bc870d7319e753700a66d8d15a108e749c", func := "loop.example/constanttime/laws.FnProgramWrites", spec := "fnProgramWrites", unfollowed := true, recurses := true, apart := false }
def FnProgramWritesSaid : Prop := fnProgramWritesRow.holds Try.pinned (OpenSpec.ofChange fnProgramWritesSpec)

/-- ITS FALSE NEIGHBOUR: 'it returns false'. Refute it at one input. -/
def fnProgramWritesWrong : ChangeSpec := { name := "fnProgramWrites", fn := fun _ => fun
  | [d1, d2] => { results := [.lit (.bool false)], args := [d1, d2] }
  | _ => none }
def FnProgramWritesWrongFalsely : Prop := fnProgramWritesRow.holds Try.pinned (OpenSpec.ofChange fnProgramWritesWrong)

/-- 'laws.FnExactCountStmts': WHATEVER THE INPUT: true; the input reads as it did. -/
def fnExactCountStmtsSpec : ChangeSpec := { name := "fnExactCountStmts", fn := fun _ => fun
  | [d] => { results := [.lit (.bool true)], args := [d] }
  | _ => none }
def fnExactCountStmtsRow : OpenClaim := { program := "ytbnhhmgdkiomoaa", sum := "2c32a1a211c2959d0c8925e2914874bc870d7319e753700a66d8d15a108e749c", func := "loop.example/constanttime/laws.FnExactCountStmts", spec := "fnExactCountStmts", unfollowed := true, recurses := true, loops := true, apart := false }
def FnExactCountStmtsSaid : Prop := fnExactCountStmtsRow.holds Try.pinned (OpenSpec.ofChange fnExactCountStmtsSpec)

/-- ITS FALSE NEIGHBOUR: 'it returns false'. Refute it at one input. -/
def fnExactCountStmtsWrong : ChangeSpec := { name := "fnExactCountStmts", fn := fun _ => fun
  | [d] => { results := [.lit (.bool false)], args := [d] }
  | _ => none }
def FnExactCountStmtsWrongFalsely : Prop := fnExactCountStmtsRow.holds Try.pinned (OpenSpec.ofChange fnExactCountStmtsWrong)

/-- 'laws.FnExactReleaseFree': WHATEVER THE INPUT: true; the input reads as it did. -/
def fnExactReleaseFreeSpec : ChangeSpec := { name := "fnExactReleaseFree", fn := fun _ => fun
  | [d] => { results := [.lit (.bool true)], args := [d] }
  | _ => none }
def fnExactReleaseFreeRow : OpenClaim := { program := "ytbnhhmgdkiomoaa", sum := "2c32a1a211c2959d0c8925e2914874bc870d7319e753700a66d8d15a108e749c", func := "loop.example/constanttime/laws.FnExactReleaseFree", spec := "fnExactReleaseFree", unfollowed := true, recurses := true, loops := true, apart := false }
def FnExactReleaseFreeSaid : Prop := fnExactReleaseFreeRow.holds Try.pinned (OpenSpec.ofChange fnExactReleaseFreeSpec)

/-- ITS FALSE NEIGHBOUR: 'it returns false'. Refute it at one input. -/
def fnExactReleaseFreeWrong : ChangeSpec := { name := "fnExactReleaseFree", fn := fun _ => fun
  | [d] => { results := [.lit (.bool false)], args := [d] }
  | _ => none }
def FnExactReleaseFreeWrongFalsely : Prop := fnExactReleaseFreeRow.holds Try.pinned (OpenSpec.ofChange fnExactReleaseFreeWrong)

/-- 'laws.FnExactProgramWrites': WHATEVER THE INPUT: true; the input reads as it did. -/
def fnExactProgramWritesSpec : ChangeSpec := { name := "fnExactProgramWrites", fn := fun _ => fun
  | [d] => { results := [.lit (.bool true)], args := [d] }
  | _ => none }
def fnExactProgramWritesRow : OpenClaim := { program := "ytbnhhmgdkiomoaa", sum := "2c32a1a211c2959d0c8925e2914874bc870d7319e753700a66d8d15a108e749c", func := "loop.example/constanttime/laws.FnExactProgramWrites", spec := "fnExactProgramWrites", unfollowed := true, recurses := true, loops := true, apart := false }
def FnExactProgramWritesSaid : Prop := fnExactProgramWritesRow.holds Try.pinned (OpenSpec.ofChange fnExactProgramWritesSpec)

/-- ITS FALSE NEIGHBOUR: 'it returns false'. Refute it at one input. -/
def fnExactProgramWritesWrong : ChangeSpec := { name := "fnExactProgramWrites", fn := fun _ => fun
  | [d] => { results := [.lit (.bool false)], args := [d] }
  | _ => none }
def FnExactProgramWritesWrongFalsely : Prop := fnExactProgramWritesRow.holds Try.pinned (OpenSpec.ofChange fnExactProgramWritesWrong)

/-- 'laws.FnExactCheckFlow': WHATEVER THE INPUT: true; the input reads as it did. -/
def fnExactCheckFlowSpec : ChangeSpec := { name := "fnExactCheckFlow", fn := fun _ => fun
  | [d] => { results := [.lit (.bool true)], args := [d] }
  | _ => none }
def fnExactCheckFlowRow : OpenClaim := { program := "ytbnhhmgdkiomoaa", sum := "2c32a1a211c2959d0c8925e2914874bc870d7319e753700a66d8d15a108e749c", func := "loop.example/constanttime/laws.FnExactCheckFlow", spec := "fnExactCheckFlow", unfollowed := true, recurses := true, loops := true, apart := false }
def FnExactCheckFlowSaid : Prop := fnExactCheckFlowRow.holds Try.pinned (OpenSpec.ofChange fnExactCheckFlowSpec)

/-- ITS FALSE NEIGHBOUR: 'it returns false'. Refute it at one input. -/
def fnExactCheckFlowWrong : ChangeSpec := { name := "fnExactCheckFlow", fn := fun _ => fun
  | [d] => { results := [.lit (.bool false)], args := [d] }
  | _ => none }
def FnExactCheckFlowWrongFalsely : Prop := fnExactCheckFlowRow.holds Try.pinned (OpenSpec.ofChange fnExactCheckFlowWrong)

/-- 'laws.FnExactCompileExpr': WHATEVER THE INPUT: true; the input reads as it did. -/
def fnExactCompileExprSpec : ChangeSpec := { name := "fnExactCompileExpr", fn := fun _ => fun
  | [d1, d2] => { results := [.lit (.bool true)], args := [d1, d2] }
  | _ => none }
def fnExactCompileExprRow : OpenClaim := { program := "ytbnhhmgdkiomoaa", sum := "2c32a1a211c2959d0c8925e2914874bc870d7319e753700a66d8d15a108e749c", func := "loop.example/constanttime/laws.FnExactCompileExpr", spec := "fnExactCompileExpr", unfollowed := true, recurses := true, loops := true, apart := false }
def FnExactCompileExprSaid : Prop := fnExactCompileExprRow.holds Try.pinned (OpenSpec.ofChange fnExactCompileExprSpec)

/-- ITS FALSE NEIGHBOUR: 'it returns false'. Refute it at one input. -/
def fnExactCompileExprWrong : ChangeSpec := { name := "fnExactCompileExpr", fn := fun _ => fun
  | [d1, d2] => { results := [.lit (.bool false)], args := [d1, d2] }
  | _ => none }
def FnExactCompileExprWrongFalsely : Prop := fnExactCompileExprRow.holds Try.pinned (OpenSpec.ofChange fnExactCompileExprWrong)

/-- 'laws.FnCompileExpr': WHATEVER THE INPUT: true; the input reads as it did. -/
def fnCompileExprSpec : ChangeSpec := { name := "fnCompileExpr", fn := fun _ => fun
  | [d] => { results := [.lit (.bool true)], args := [d] }
  | _ => none }
def fnCompileExprRow : OpenClaim := { program := "ytbnhhmgdkiomoaa", sum := "2c32a1a211c2959d0c8925e2914874bc870d7319e753700a66d8d15a108e749c", func := "loop.example/constanttime/laws.FnCompileExpr", spec := "fnCompileExpr", unfollowed := true, recurses := true, apart := false }
def FnCompileExprSaid : Prop := fnCompileExprRow.holds Try.pinned (OpenSpec.ofChange fnCompileExprSpec)

/-- ITS FALSE NEIGHBOUR: 'it returns false'. Refute it at one input. -/
def fnCompileExprWrong : ChangeSpec := { name := "fnCompileExpr", fn := fun _ => fun
  | [d] => { results := [.lit (.bool false)], args := [d] }
  | _ => none }
def FnCompileExprWrongFalsely : Prop := fnCompileExprRow.holds Try.pinned (OpenSpec.ofChange fnCompileExprWrong)

/-- 'laws.FnCompileSequence': WHATEVER THE INPUT: true; the input reads as it did. -/
def fnCompileSequenceSpec : ChangeSpec := { name := "fnCompileSequence", fn := fun _ => fun
  | [d1, d2] => { results := [.lit (.bool true)], args := [d1, d2] }
  | _ => none }
def fnCompileSequenceRow : OpenClaim := { program := "ytbnhhmgdkiomoaa", sum := "2c32a1a211c2959d0c8925e2914874bc870d7319e753700a66d8d15a108e749c", func := "loop.example/constanttime/laws.FnCompileSequence", spec := "fnCompileSequence", unfollowed := true, recurses := true, apart := false }
def FnCompileSequenceSaid : Prop := fnCompileSequenceRow.holds Try.pinned (OpenSpec.ofChange fnCompileSequenceSpec)

/-- ITS FALSE NEIGHBOUR: 'it returns false'. Refute it at one input. -/
def fnCompileSequenceWrong : ChangeSpec := { name := "fnCompileSequence", fn := fun _ => fun
  | [d1, d2] => { results := [.lit (.bool false)], args := [d1, d2] }
  | _ => none }
def FnCompileSequenceWrongFalsely : Prop := fnCompileSequenceRow.holds Try.pinned (OpenSpec.ofChange fnCompileSequenceWrong)

/- THE SECOND FORM. 'bulk': how many values and letters a reading holds, each counted each time it is reached (what is shared counts as often as it is met; a slice's spare places count too). A statement '..UptoSaid' is the law's where the arguments, and the package variables that the reading takes, are together of bulk at most 1048576: NARROWER than '..Said'. Prove '..Said' where nothing that the law and all that it calls make is longer than what came in: it says more and counts as full. Else prove '..UptoSaid'. A law counts once. -/
mutual
def uptoBulk {H : Type} : DataW H → Nat
  | .lit (.string bytes) => bytes.length + 1
  | .lit _ => 1
  | .nil => 1
  | .ptr d => uptoBulk d + 1
  | .slice elems spare => uptoBulkAll elems + uptoBulkAll spare + 1
  | .agg parts => uptoBulkAll parts + 1
  | .iface _ d => uptoBulk d + 1
  | .map entries => uptoBulkEntries entries + 1
  | .held _ => 1
def uptoBulkAll {H : Type} : List (DataW H) → Nat
  | [] => 0
  | d :: r => uptoBulk d + uptoBulkAll r
def uptoBulkEntries {H : Type} : List (Lit × DataW H) → Nat
  | [] => 0
  | x :: r => uptoBulkEntry x + uptoBulkEntries r
def uptoBulkEntry {H : Type} : Lit × DataW H → Nat
  | (.string bytes, d) => bytes.length + uptoBulk d + 1
  | (_, d) => uptoBulk d + 1
 end
def uptoSmall : (H : Type) → List (DataW H) → Bool := fun _ ds => decide (uptoBulkAll ds ≤ 1048576)
def OpenSpec.upto (s : _root_.Go.ChangeSpec) : _root_.Go.OpenSpec := { _root_.Go.OpenSpec.ofChange s with cond := some uptoSmall }

/-- 'laws.FnExprSame', WHERE WHAT IT READS IS OF BULK AT MOST 1048576: true; the input reads as it did. -/
def fnExprSameUptoRow : OpenClaim := { program := "ytbnhhmgdkiomoaa", sum := "2c32a1a211c2959d0c8925e2914874bc870d7319e753700a66d8d15a108e749c", func := "loop.example/constanttime/laws.FnExprSame", spec := "fnExprSame", unfollowed := true, recurses := true, apart := false, narrowed := true }
def FnExprSameUptoSaid : Prop := fnExprSameUptoRow.holds Try.pinned (OpenSpec.upto fnExprSameSpec)

/-- 'laws.FnExprKids', WHERE WHAT IT READS IS OF BULK AT MOST 1048576: true; the input reads as it did. -/
def fnExprKidsUptoRow : OpenClaim := { program := "ytbnhhmgdkiomoaa", sum := "2c32a1a211c2959d0c8925e2914874bc870d7319e753700a66d8d15a108e749c", func := "loop.example/constanttime/laws.FnExprKids", spec := "fnExprKids", unfollowed := true, recurses := true, apart := false, narrowed := true }
def FnExprKidsUptoSaid : Prop := fnExprKidsUptoRow.holds Try.pinned (OpenSpec.upto fnExprKidsSpec)

/-- 'laws.FnProgramEmpty', WHERE WHAT IT READS IS OF BULK AT MOST 1048576: true; the input reads as it did. -/
def fnProgramEmptyUptoRow : OpenClaim := { program := "ytbnhhmgdkiomoaa", sum := "2c32a1a211c2959d0c8925e2914874bc870d7319e753700a66d8d15a108e749c", func := "loop.example/constanttime/laws.FnProgramEmpty", spec := "fnProgramEmpty", unfollowed := true, recurses := true, apart := false, narrowed := true }
def FnProgramEmptyUptoSaid : Prop := fnProgramEmptyUptoRow.holds Try.pinned (OpenSpec.upto fnProgramEmptySpec)

/-- 'laws.FnCountStmts', WHERE WHAT IT READS IS OF BULK AT MOST 1048576: true; the input reads as it did. -/
def fnCountStmtsUptoRow : OpenClaim := { program := "ytbnhhmgdkiomoaa", sum := "2c32a1a211c2959d0c8925e2914874bc870d7319e753700a66d8d15a108e749c", func := "loop.example/constanttime/laws.FnCountStmts", spec := "fnCountStmts", unfollowed := true, recurses := true, apart := false, narrowed := true }
def FnCountStmtsUptoSaid : Prop := fnCountStmtsUptoRow.holds Try.pinned (OpenSpec.upto fnCountStmtsSpec)

/-- 'laws.FnProgramWrites', WHERE WHAT IT READS IS OF BULK AT MOST 1048576: true; the input reads as it did. -/
def fnProgramWritesUptoRow : OpenClaim := { program := "ytbnhhmgdkiomoaa", sum := "2c32a1a211c2959d0c8925e2914874bc870d7319e753700a66d8d15a108e749c", func := "loop.example/constanttime/laws.FnProgramWrites", spec := "fnProgramWrites", unfollowed := true, recurses := true, apart := false, narrowed := true }
def FnProgramWritesUptoSaid : Prop := fnProgramWritesUptoRow.holds Try.pinned (OpenSpec.upto fnProgramWritesSpec)

/-- 'laws.FnExactCountStmts', WHERE WHAT IT READS IS OF BULK AT MOST 1048576: true; the input reads as it did. -/
def fnExactCountStmtsUptoRow : OpenClaim := { program := "ytbnhhmgdkiomoaa", sum := "2c32a1a211c2959d0c8925e2914874bc870d7319e753700a66d8d15a108e749c", func := "loop.example/constanttime/laws.FnExactCountStmts", spec := "fnExactCountStmts", unfollowed := true, recurses := true, loops := true, apart := false, narrowed := true }
def FnExactCountStmtsUptoSaid : Prop := fnExactCountStmtsUptoRow.holds Try.pinned (OpenSpec.upto fnExactCountStmtsSpec)

/-- 'laws.FnExactReleaseFree', WHERE WHAT IT READS IS OF BULK AT MOST 1048576: true; the input reads as it did. -/
def fnExactReleaseFreeUptoRow : OpenClaim := { program := "ytbnhhmgdkiomoaa", sum := "2c32a1a211c2959d0c8925e2914874bc870d7319e753700a66d8d15a108e749c", func := "loop.example/constanttime/laws.FnExactReleaseFree", spec := "fnExactReleaseFree", unfollowed := true, recurses := true, loops := true, apart := false, narrowed := true }
def FnExactReleaseFreeUptoSaid : Prop := fnExactReleaseFreeUptoRow.holds Try.pinned (OpenSpec.upto fnExactReleaseFreeSpec)

/-- 'laws.FnExactProgramWrites', WHERE WHAT IT READS IS OF BULK AT MOST 1048576: true; the input reads as it did. -/
def fnExactProgramWritesUptoRow : OpenClaim := { program := "ytbnhhmgdkiomoaa", sum := "2c32a1a211c2959d0c8925e2914874bc870d7319e753700a66d8d15a108e749c", func := "loop.example/constanttime/laws.FnExactProgramWrites", spec := "fnExactProgramWrites", unfollowed := true, recurses := true, loops := true, apart := false, narrowed := true }
def FnExactProgramWritesUptoSaid : Prop := fnExactProgramWritesUptoRow.holds Try.pinned (OpenSpec.upto fnExactProgramWritesSpec)

/-- 'laws.FnExactCheckFlow', WHERE WHAT IT READS IS OF BULK AT MOST 1048576: true; the input reads as it did. -/
def fnExactCheckFlowUptoRow : OpenClaim := { program := "ytbnhhmgdkiomoaa", sum := "2c32a1a211c2959d0c8925e2914874bc870d7319e753700a66d8d15a108e749c", func := "loop.example/constanttime/laws.FnExactCheckFlow", spec := "fnExactCheckFlow", unfollowed := true, recurses := true, loops := true, apart := false, narrowed := true }
def FnExactCheckFlowUptoSaid : Prop := fnExactCheckFlowUptoRow.holds Try.pinned (OpenSpec.upto fnExactCheckFlowSpec)

/-- 'laws.FnExactCompileExpr', WHERE WHAT IT READS IS OF BULK AT MOST 1048576: true; the input reads as it did. -/
def fnExactCompileExprUptoRow : OpenClaim := { program := "ytbnhhmgdkiomoaa", sum := "2c32a1a211c2959d0c8925e2914874bc870d7319e753700a66d8d15a108e749c", func := "loop.example/constanttime/laws.FnExactCompileExpr", spec := "fnExactCompileExpr", unfollowed := true, recurses := true, loops := true, apart := false, narrowed := true }
def FnExactCompileExprUptoSaid : Prop := fnExactCompileExprUptoRow.holds Try.pinned (OpenSpec.upto fnExactCompileExprSpec)

/-- 'laws.FnCompileExpr', WHERE WHAT IT READS IS OF BULK AT MOST 1048576: true; the input reads as it did. -/
def fnCompileExprUptoRow : OpenClaim := { program := "ytbnhhmgdkiomoaa", sum := "2c32a1a211c2959d0c8925e2914874bc870d7319e753700a66d8d15a108e749c", func := "loop.example/constanttime/laws.FnCompileExpr", spec := "fnCompileExpr", unfollowed := true, recurses := true, apart := false, narrowed := true }
def FnCompileExprUptoSaid : Prop := fnCompileExprUptoRow.holds Try.pinned (OpenSpec.upto fnCompileExprSpec)

/-- 'laws.FnCompileSequence', WHERE WHAT IT READS IS OF BULK AT MOST 1048576: true; the input reads as it did. -/
def fnCompileSequenceUptoRow : OpenClaim := { program := "ytbnhhmgdkiomoaa", sum := "2c32a1a211c2959d0c8925e2914874bc870d7319e753700a66d8d15a108e749c", func := "loop.example/constanttime/laws.FnCompileSequence", spec := "fnCompileSequence", unfollowed := true, recurses := true, apart := false, narrowed := true }
def FnCompileSequenceUptoSaid : Prop := fnCompileSequenceUptoRow.holds Try.pinned (OpenSpec.upto fnCompileSequenceSpec)

end Rows
end Go.Proofs.Ytbnhhmgdkiomoaa
